/- What the claim of FnMoveBack leans on, part 15 of 16. -/
import Derived.Lib.AppendZerosOnto
import Derived.MapKept
import Derived.Test.YthdpnpckmoffaaaGreatMoveBack00
import Derived.Test.YthdpnpckmoffaaaGreatMoveBack01
import Derived.Test.YthdpnpckmoffaaaGreatMoveBack02
import Derived.Test.YthdpnpckmoffaaaGreatMoveBack03
import Derived.Test.YthdpnpckmoffaaaGreatMoveBack04
import Derived.Test.YthdpnpckmoffaaaGreatMoveBack05
import Derived.Test.YthdpnpckmoffaaaGreatMoveBack06
import Derived.Test.YthdpnpckmoffaaaGreatMoveBack07
import Derived.Test.YthdpnpckmoffaaaGreatMoveBack08
import Derived.Test.YthdpnpckmoffaaaGreatMoveBack09
import Derived.Test.YthdpnpckmoffaaaGreatMoveBack10
import Derived.Test.YthdpnpckmoffaaaGreatMoveBack11
import Derived.Test.YthdpnpckmoffaaaGreatMoveBack12
import Derived.Test.YthdpnpckmoffaaaGreatMoveBack13
set_option linter.unusedVariables false
set_option linter.unusedSimpArgs false
set_option linter.unusedSectionVars false
set_option maxRecDepth 100000
namespace Go.PT
def OrdP (m : Mc) : Prop := (∀ i : Int, 0 ≤ i → i < m.pages.length → i ∈ m.order) ∧ m.order.length = m.pages.length ∧ (m.now = -1 ∨ ((topP m).2.2 = true ∧ m.order.getLast? = some m.now))
def PreG {ν : Type} (g : Gr ν) : Option ν → List ν → Option ν → Prop
  | o, [], c => o = c
  | o, x :: l, c => o = some x ∧ g.dead x = false ∧ PreG g (g.sender x) l c
section
variable {ν : Type} {g : Gr ν}
theorem PreG.snoc {x : ν} : ∀ {l : List ν} {o : Option ν}, PreG g o l (some x) → g.dead x = false → PreG g o (l ++ [x]) (g.sender x)
  | [], o, h, hd => ⟨h, hd, rfl⟩
  | y :: l, o, ⟨h1, h2, h3⟩, hd => ⟨h1, h2, PreG.snoc h3 hd⟩
theorem PreG.way : ∀ {l : List ν} {o : Option ν}, PreG g o l none → WayG g o l
  | [], o, h => by
    have h : o = none := h
    subst h; exact trivial
  | y :: l, o, ⟨h1, h2, h3⟩ => by
    subst h1
    exact ⟨rfl, h2, PreG.way h3⟩
theorem PreG.split : ∀ {l l' : List ν} {o c : Option ν}, PreG g o l c → WayG g o l' → ∃ l2, l' = l ++ l2 ∧ WayG g c l2
  | [], l', o, c, h, h' => by
    have h : o = c := h
    subst h; exact ⟨l', rfl, h'⟩
  | y :: l, [], o, c, ⟨h1, h2, h3⟩, h' => by subst h1; exact h'.elim
  | y :: l, z :: l', o, c, ⟨h1, h2, h3⟩, h' => by
    subst h1
    obtain ⟨k1, k2, k3⟩ := h'
    subst k1
    obtain ⟨l2, rfl, k⟩ := PreG.split h3 k3
    exact ⟨l2, rfl, k⟩
end
def ChP (m : Mc) : Prop := ∃ l, WayG (GM m) (topSp m) l ∧ (∀ s, InM m s → (clOf m s).dead = false → s ∈ l) ∧ ∀ s ∈ l.tail, ((clOf m s).stack.length : Int) < 6
section
variable {p : Pg} {m : Mc} {i k t : Int} {s : Sp}
theorem SH.wf (S : SH p m) : WF m := by
  refine ⟨fun i k a b c d => ?_, fun t a b => ?_, fun i a b => ⟨(S.pn i a b).b0, (S.pn i a b).b1⟩, fun t a b c => ?_, fun i k a b c d v hv e => ?_, fun t a b c v hv e => ?_⟩
  · have P := S.pn i a b
    have f := P.form k c d
    exact ⟨f.2.1, f.2.2, P.tells k c d⟩
  · have T := S.tw t a b
    refine ⟨?_, fun h => ?_⟩
    · rcases Int.lt_or_le (twAt m t).page 0 with h | h
      · have := (T.off h).1; omega
      · omega
    · obtain ⟨q1, q2, q3, q4, _⟩ := T.on h
      exact ⟨q1, q2, q3, q4⟩
  · have f := ((S.tw t a b).off c).2.2
    exact ⟨f.s0, f.s1⟩
  · have f := ((S.pn i a b).form k c d).1
    rcases List.mem_append.mp hv with hv | hv
    · exact valOk_call (f.tv v hv) e
    · exact valOk_call (f.sv v hv) e
  · have f := ((S.tw t a b).off c).2.2
    rcases List.mem_append.mp hv with hv | hv
    · exact valOk_call (f.tv v hv) e
    · exact valOk_call (f.sv v hv) e
theorem top_inW (W : WF m) {b : Sp} (h : topSp m = some b) : InM m b ∧ topP m = ((plS m b).1, (plS m b).2, true) := by
  unfold topSp at h
  split at h
  · rename_i hc
    obtain rfl := Option.some.inj h
    have := List.length_pos_iff.mpr hc.2.2
    have k0 : 0 ≤ topK m := by unfold topK nF; omega
    have k1 : topK m < nF m m.now := by unfold topK; omega
    refine ⟨in_sp W hc.1 hc.2.1 k0 k1, ?_⟩
    rw [plS_sp W hc.1 hc.2.1 k0 k1]
    unfold topP
    rw [if_pos ⟨hc.1, hc.2.1⟩, show decide (0 ≤ nF m m.now - 1) = true from decide_eq_true k0]
    rfl
  · cases h
theorem top_noneP (h : topSp m = none) : (topP m).2.2 = false := by
  unfold topSp at h
  split at h
  · cases h
  · rename_i hc
    unfold topP
    split
    · rename_i hn
      have : (pnAt m m.now).frames = [] := Decidable.not_not.mp (fun hh => hc ⟨hn.1, hn.2, hh⟩)
      refine decide_eq_false ?_
      unfold nF
      rw [this]
      decide
    · rfl
theorem way_live (W : WF m) {l : List Sp} (h : WayG (GM m) (topSp m) l) : (∀ s ∈ l, InM m s ∧ (clOf m s).dead = false) ∧ (l.length : Int) ≤ liveM m ∧ ((l.length : Int) = liveM m ↔ ∀ s, InM m s → (clOf m s).dead = false → s ∈ l) := by
  have ha := WayG.all (g := GM m) (D := InM m) (fun a ha b hb => snd_in W ha hb) h (fun x hx => (top_inW W hx).1)
  have hsub : ∀ s ∈ l, s ∈ liveS m := fun s hs => (mem_liveS W).mpr ⟨(ha s hs).1, (ha s hs).2⟩
  have e1 := length_le_of_sub (WayG.nodup h) (m := liveS m) hsub
  refine ⟨ha, by rw [← liveS_len]; omega, ?_⟩
  rw [← liveS_len]
  constructor
  · intro e s hs hd
    have hm := (mem_liveS W).mpr ⟨hs, hd⟩
    exact Decidable.byContradiction fun hn => by
      have e2 := length_le_of_sub (l := s :: l) (List.nodup_cons.mpr ⟨hn, WayG.nodup h⟩) (m := liveS m) (fun x hx => by
        rcases List.mem_cons.mp hx with rfl | hx
        · exact hm
        · exact hsub x hx)
      rw [List.length_cons] at e2
      omega
  · intro hall
    have e2 := length_le_of_sub (liveS_nodup W) (m := l) (fun s hs => by
      obtain ⟨a, b⟩ := (mem_liveS W).mp hs
      exact hall s a b)
    omega
end
attribute [local irreducible] ldT ldsT stT stsT allocT boxT bldT bslT nilT fadT ixaT fldT extT lenT pickT binT notT cviT opT opU condT clT clvT ivT loopT arT ndT World.cell? World.frozen? World.alloc World.drew World.setCell Blk Cells Sl
section
variable {m : Mc} {w : World} {up uo ut us : Value} {R : VW}
theorem c_containsInt {l : List Int} {x : Int} {q : List Nat} {v : Value} (h : Sl kInt Any w q l v) (hl : l.length ≤ 2097152) (hR : R (.bool (decide (x ∈ l))) w) : clT PR 176 [v, .int .i64 x] w R := by
  refine Fslices_Contains_int.cl ?_
  unfold Fslices_Contains_int
  refine c_indexInt h hl ?_
  (refine geq_of ?_)
  have e : decide ((if x ∈ l then (l.idxOf x : Int) else -1) ≥ 0) = decide (x ∈ l) := by
    rw [decide_eq_decide]
    split
    · exact ⟨fun _ => by assumption, fun _ => by omega⟩
    · exact ⟨fun h => absurd h (by decide), fun h => by contradiction⟩
  rw [e]
  exact hR
theorem c_ordered (V : MachV w m up uo ut us) (B : MB m) (hR : ∀ w' bb, Ext w w' → (bb = true ↔ OrdP m) → R (.bool bb) w') : clT PR 110 [.agg (machCells m up uo ut us).toArray] w R := by
  refine Fimpl_Mach_ordered.cl ?_
  unfold Fimpl_Mach_ordered
  have hp := V.pages
  have ho := V.order
  have hB := B.np
  have hB2 := B.no
  have E := En.start w
  refine E.box (fun b1 w1 E _ => ?_)
  (refine fad_of ?_)
  refine E.ld (.head _) rfl ?_
  refine hp.len_of ?_
  have bad : ¬ OrdP m → ∀ wy, Ext w wy → R (.bool false) wy := fun h wy e => hR _ _ e ⟨fun h' => (nomatch h'), fun h' => absurd h' h⟩
  refine loop_of (fun n s wx => ∃ i : Nat, s = [.pointer (some ⟨b1, 0, none⟩), .bool false, .int .i64 m.pages.length, .int .i64 i] ∧ i ≤ m.pages.length ∧ n = m.pages.length - i ∧ wx = w1 ∧ ∀ j : Int, 0 ≤ j → j < i → j ∈ m.order) ?_ (m := m.pages.length) ⟨0, rfl, by omega, by omega, rfl, fun j j0 j1 => by omega⟩
  rintro n s wx Kn ⟨i, rfl, hi, hn, rfl, hin⟩ hKn
  intro _
  simp only [List.headD_cons, List.tail_cons]
  (refine lss_of ?_)
  refine condLt_of (fun hlt => ?_) (fun hlt => ?_)
  · (refine fad_of ?_)
    refine E.ld (.head _) rfl ?_
    refine c_containsInt (ho.ext E.toExt) (by omega) ?_
    (refine not_of ?_)
    refine condN_of (fun h => ?_) (fun h => ?_)
    · intro _
      exact bad (fun O => of_decide_eq_false h (O.1 i (by omega) hlt)) _ E.toExt
    (refine add_of (by (omega)) (by (omega)) ?_)
    exact hKn (n - 1) _ _ (by omega) ⟨i + 1, rfl, by omega, by omega, rfl, fun j j0 j1 => by
      rcases Int.lt_or_le j i with h' | h'
      · exact hin j j0 h'
      · have : j = i := by omega
        subst this; exact of_decide_eq_true h⟩
  · intro _
    have hall : ∀ j : Int, 0 ≤ j → j < m.pages.length → j ∈ m.order := fun j j0 j1 => hin j j0 (by omega)
    (refine fad_of ?_)
    refine E.ld (.head _) rfl ?_
    refine ho.len_of ?_
    (refine fad_of ?_)
    refine E.ld (.head _) rfl ?_
    refine hp.len_of ?_
    (refine neq_of ?_)
    refine condNe_of (fun hne => bad (fun O => hne (by have := O.2.1; omega)) _ E.toExt) (fun hol => ?_)
    refine E.lds (.head _) rfl ?_
    refine c_machTop (V.ext E.toExt) B (fun w3 e3 => ?_)
    replace E := E.ext e3
    refine ext_of rfl ?_
    refine ext_of rfl ?_
    refine E.als (vs := [.int .i64 (topP m).1, .int .i64 (topP m).2.1]) rfl rfl rfl (by simp [Value.oneCell']) (fun b4 w4 E _ => ?_)
    replace E := E.drew
    (refine fad_of ?_)
    refine E.ld (.tail _ (.head _)) rfl ?_
    (refine eql_of ?_)
    refine condP_of (fun he => hR _ _ E.toExt ⟨fun _ => ⟨hall, by omega, .inl he⟩, fun _ => rfl⟩) (fun he => ?_)
    refine cond_of (fun htp => ?_) (fun htp => ?_)
    · have hn2 : 0 ≤ m.now ∧ m.now < m.pages.length := by
        unfold topP at htp
        split at htp
        · assumption
        · cases htp
      (refine fad_of ?_)
      refine E.ld (.tail _ (.head _)) rfl ?_
      (refine fad_of ?_)
      refine E.ld (.tail _ (.head _)) rfl ?_
      refine ho.len_of ?_
      (refine sub_of (by (omega)) (by (omega)) ?_)
      refine int_ix (ho.ext E.toExt) (i := (m.order.length : Int) - 1) (by omega) (by omega) (fun b o hc => ?_)
      refine ld_of hc ?_
      (refine fad_of ?_)
      refine E.ld (.tail _ (.head _)) rfl ?_
      (refine eql_of ?_)
      refine hR _ _ E.toExt ?_
      have hla : intAt m.order ((m.order.length : Int) - 1) = m.now ↔ m.order.getLast? = some m.now := by
        unfold intAt
        rw [List.getLast?_eq_getElem?, List.getD_eq_getElem?_getD, show ((m.order.length : Int) - 1).toNat = m.order.length - 1 by omega, List.getElem?_eq_getElem (by omega)]
        exact ⟨fun h => by rw [← h]; rfl, fun h => Option.some.inj h⟩
      rw [decide_eq_true_iff, hla]
      exact ⟨fun h => ⟨hall, by omega, .inr ⟨htp, h⟩⟩, fun O => O.2.2.elim (fun h => absurd h he) (fun h => h.2)⟩
    · exact bad (fun O => O.2.2.elim (fun h => absurd h he) (fun h => by rw [h.1] at htp; cases htp)) _ E.toExt
theorem SH.stack {p : Pg} (S : SH p m) {s : Sp} (hs : InM m s) : ((clOf m s).stack.length : Int) ≤ 6 := by
  unfold clOf
  rcases place S.wf hs with ⟨h1, h2, h3, h4, h5⟩ | ⟨h1, h2, h3, h4, h5⟩
  · rw [if_pos h1]
    exact ((S.tw _ h2 h3).off (by omega)).2.2.stack
  · rw [if_neg (by omega)]
    exact ((S.pn _ h1 h2).form _ h3 h4).1.stack
theorem offN_page {p : Pg} (S : SH p m) : offN m = ((m.twins.filter (fun t => decide (t.page = -1) && !t.left.dead)).length : Int) := by
  unfold offN
  congr 2
  refine List.filter_congr (fun t ht => ?_)
  obtain ⟨i, i0, i1, rfl⟩ := tw_of_mem ht
  have T := S.tw i i0 i1
  congr 1
  rw [decide_eq_decide]
  constructor
  · intro h; exact (T.off h).1
  · intro h; omega
theorem framesN_le (B : MB m) : 0 ≤ framesN m ∧ framesN m ≤ 2097152 * 2097152 := by
  unfold framesN
  have h := sum_bound (fun g : Pn => (g.frames.length : Int)) 2097152 (l := m.pages) (fun g hg => by have := (B.nf g hg).1; omega)
  have := B.np
  refine ⟨h.1, Int.le_trans h.2 ?_⟩
  omega
theorem c_chained {p : Pg} (S : SH p m) (V : MachV w m up uo ut us) (B : MB m) (hR : ∀ w' bb, Ext w w' → (bb = true ↔ ChP m) → R (.bool bb) w') : clT PR 113 [.agg (machCells m up uo ut us).toArray] w R := by
  refine Fimpl_Mach_chained.cl ?_
  unfold Fimpl_Mach_chained
  have W := S.wf
  have hfl := framesN_le B
  have hBt := B.nt.1
  have hot : offN m ≤ m.twins.length := by
    unfold offN
    have := List.length_filter_le (fun t : Tw => decide (t.page < 0) && !t.left.dead) m.twins
    omega
  have E := En.start w
  refine E.box (fun b1 w1 E _ => ?_)
  refine E.lds (.head _) rfl ?_
  refine c_machFrames (V.ext E.toExt) B (fun w2 e2 => ?_)
  replace E := E.ext e2
  (refine fad_of ?_)
  refine E.ld (.head _) rfl ?_
  refine V.twins.len_of ?_
  have bad : ¬ ChP m → ∀ wy, Ext w wy → R (.bool false) wy := fun h wy e => hR _ _ e ⟨fun h' => (nomatch h'), fun h' => absurd h' h⟩
  refine loop_of (fun n s wx => ∃ k : Nat, s = [.pointer (some ⟨b1, 0, none⟩), .bool false, .int .i64 (framesN m + ((m.twins.take k).filter (fun t => decide (t.page = -1) && !t.left.dead)).length), ut, .int .i64 m.twins.length, .int .i64 k] ∧ k ≤ m.twins.length ∧ n = m.twins.length - k ∧ En noL w noL wx [(b1, machCells m up uo ut us)]) ?_ (m := m.twins.length) ⟨0, by simp, by omega, by omega, E⟩
  rintro n s wx Ko ⟨k, rfl, hk, hn, E⟩ hKo
  intro _
  simp only [List.headD_cons, List.tail_cons]
  have e0 := E.toExt
  have hfk : ((m.twins.take k).filter (fun t : Tw => decide (t.page = -1) && !t.left.dead)).length ≤ m.twins.length := by
    have h1 := List.length_filter_le (fun t : Tw => decide (t.page = -1) && !t.left.dead) (m.twins.take k)
    rw [List.length_take] at h1
    omega
  (refine lss_of ?_)
  refine condLt_of (fun hlt => ?_) (fun hge => ?_)
  · have hg : m.twins[k]? = some (twAt m k) := by unfold twAt; rw [Int.toNat_natCast, List.getD_eq_getElem?_getD, List.getElem?_eq_getElem (by omega)]; rfl
    refine tw_ix V.twins (i := k) (by omega) hlt (fun b o u2 v2 hc hu hv => ?_)
    replace hc : Cells w b o (cellsT (twAt m k) u2 v2) := hc
    refine lds_of (hc.ext e0) rfl ?_
    refine E.als (vs := cellsT (twAt m k) u2 v2) rfl rfl rfl (by intro x hx; simp only [cellsT, List.mem_cons, List.not_mem_nil, or_false] at hx; rcases hx with h | h | h | h | h | h | h | h <;> rw [h] <;> first | rfl | exact hu.one | exact hv.one) (fun b5 w5 E _ => ?_)
    have go : ∀ d : Int, (((m.twins.take (k + 1)).filter (fun t => decide (t.page = -1) && !t.left.dead)).length : Int) = ((m.twins.take k).filter (fun t => decide (t.page = -1) && !t.left.dead)).length + d → Ko [.pointer (some ⟨b1, 0, none⟩), .bool false, .int .i64 (framesN m + ((m.twins.take k).filter (fun t => decide (t.page = -1) && !t.left.dead)).length + d), ut, .int .i64 m.twins.length, .int .i64 ((k : Int) + 1)] w5 := fun d hd => by
      refine hKo (n - 1) _ _ (by omega) ⟨k + 1, ?_, by omega, by omega, E.pop⟩
      rw [hd, ← Int.add_assoc]; rfl
    have stepf : ((m.twins.take (k + 1)).filter (fun t : Tw => decide (t.page = -1) && !t.left.dead)) = ((m.twins.take k).filter (fun t => decide (t.page = -1) && !t.left.dead)) ++ (if (decide ((twAt m k).page = -1) && !(twAt m k).left.dead) = true then [twAt m k] else []) := by
      rw [List.take_add_one, hg, List.filter_append, Option.toList_some, List.filter_cons]
      rfl
    (refine fad_of ?_)
    refine E.ld (.head _) rfl ?_
    (refine eql_of ?_)
    refine condP_of (fun h1 => ?_) (fun h1 => ?_)
    · (refine fad_of ?_)
      (refine fad_of ?_)
      refine E.ld (.head _) rfl ?_
      (refine not_of ?_)
      refine condN_of (fun h2 => ?_) (fun h2 => ?_)
      · (refine add_of (by (omega)) (by (omega)) ?_)
        (refine add_of (by (omega)) (by (omega)) ?_)
        refine go 1 ?_
        rw [stepf, if_pos (by rw [decide_eq_true h1, h2]; rfl), List.length_append]; rfl
      · (refine add_of (by (omega)) (by (omega)) ?_)
        have := go 0 (by rw [stepf, if_neg (by rw [h2]; simp), List.append_nil]; omega)
        rwa [Int.add_zero] at this
    · (refine add_of (by (omega)) (by (omega)) ?_)
      have := go 0 (by rw [stepf, if_neg (by rw [decide_eq_false h1]; simp), List.append_nil]; omega)
      rwa [Int.add_zero] at this
  · intro _
    have hkk : k = m.twins.length := by omega
    subst hkk
    rw [List.take_length] at *
    have hlv : framesN m + ((m.twins.filter (fun t => decide (t.page = -1) && !t.left.dead)).length : Int) = liveM m := by
      unfold liveM; rw [offN_page S]
    rw [hlv]
    refine E.lds (.head _) rfl ?_
    refine c_machTop (V.ext E.toExt) B (fun w3 e3 => ?_)
    replace E := E.ext e3
    refine ext_of rfl ?_
    refine ext_of rfl ?_
    refine E.als (vs := [.int .i64 (topP m).1, .int .i64 (topP m).2.1]) rfl rfl rfl (by simp [Value.oneCell']) (fun b4 w4 E _ => ?_)
    have hlv0 : 0 ≤ liveM m := by rw [← liveS_len]; omega
    have hlvb : liveM m ≤ 2097152 * 2097152 + 2097152 := by unfold liveM; omega
    refine loop_of (fun n s wx => ∃ (l : List Sp) (cur : Option Sp) (a : Int) (x y : Int), s = [.pointer (some ⟨b1, 0, none⟩), .bool false, .int .i64 a, .pointer (some ⟨b4, 0, none⟩), .bool cur.isSome, .bool l.isEmpty] ∧ n = a.toNat ∧ 0 ≤ a ∧ a = liveM m - l.length ∧ PreG (GM m) (topSp m) l cur ∧ (∀ s ∈ l.tail, ((clOf m s).stack.length : Int) < 6) ∧ (∀ s, cur = some s → InM m s ∧ (x, y) = plS m s) ∧ En noL w noL wx [(b4, [.int .i64 x, .int .i64 y]), (b1, machCells m up uo ut us)]) ?_ (m := (liveM m).toNat) ?_
    · rintro n s wx Kn ⟨l, cur, a, x, y, rfl, hn, ha0, ha, hpre, htl, hcur, E⟩ hKn
      intro _
      simp only [List.headD_cons, List.tail_cons]
      have e1 := E.toExt
      cases cur with
      | none =>
        refine condT_false ?_
        intro _
        (refine eql_of ?_)
        have wy := hpre.way
        have hl := way_live W wy
        refine hR _ _ e1 ?_
        rw [decide_eq_true_iff]
        constructor
        · intro h0
          exact ⟨l, wy, hl.2.2.mp (by omega), htl⟩
        · rintro ⟨l', k1, k2, k3⟩
          have := WayG.det k1 wy
          subst this
          have := hl.2.2.mpr k2
          omega
      | some s =>
        obtain ⟨hs, hxy⟩ := hcur s rfl
        have hx : x = (plS m s).1 := congrArg Prod.fst hxy
        have hy : y = (plS m s).2 := congrArg Prod.snd hxy
        subst hx hy
        have hcl := cl_pl W hs
        have hst := S.stack hs
        have key : ChP m → 1 ≤ a ∧ (clOf m s).dead = false ∧ (l ≠ [] → ((clOf m s).stack.length : Int) < 6) := by
          rintro ⟨l', k1, k2, k3⟩
          have hl := way_live W k1
          obtain ⟨l2, rfl, h2⟩ := hpre.split k1
          cases l2 with
          | nil => exact h2.elim
          | cons z l2 =>
            obtain ⟨rfl, h3, h4⟩ := h2
            have := hl.2.2.mpr k2
            rw [List.length_append, List.length_cons] at this
            refine ⟨by omega, h3, fun hne => k3 _ ?_⟩
            cases l with
            | nil => exact absurd rfl hne
            | cons q l => simp
        refine condT_true ?_
        refine E.lds (.tail _ (.head _)) rfl ?_
        refine E.lds (.head _) rfl ?_
        refine c_callAtM (V.ext e1) (at_pl W hs) (fun w6 u v e6 hu hv => ?_)
        replace E := E.ext e6
        refine E.als (vs := cellsC (clAt m (plS m s).1 (plS m s).2) u v) rfl rfl rfl (by intro x hx; simp only [cellsC, List.mem_cons, List.not_mem_nil, or_false] at hx; rcases hx with h | h | h | h | h | h <;> rw [h] <;> first | rfl | exact hu.one | exact hv.one) (fun b7 w7 E e7 => ?_)
        (refine sub_of (by (omega)) (by (omega)) ?_)
        (refine lss_of ?_)
        refine condLt_of (fun h1 => ?_) (fun h1 => ?_)
        · intro _
          exact bad (fun C => by have := (key C).1; omega) _ E.toExt
        (refine fad_of ?_)
        refine E.ld (.head _) rfl ?_
        refine cond_of (fun h2 => ?_) (fun h2 => ?_)
        · intro _
          refine bad (fun C => ?_) _ E.toExt
          have := (key C).2.1
          rw [← hcl.dead, h2] at this; cases this
        have hd : (clOf m s).dead = false := by rw [← hcl.dead]; exact h2
        have go : (l ≠ [] → ((clOf m s).stack.length : Int) < 6) → ∀ wy, En noL w noL wy [(b7, cellsC (clAt m (plS m s).1 (plS m s).2) u v), (b4, [.int .i64 (byOf m (plS m s).1 (plS m s).2).1, .int .i64 (byOf m (plS m s).1 (plS m s).2).2.1]), (b1, machCells m up uo ut us)] → Kn [.pointer (some ⟨b1, 0, none⟩), .bool false, .int .i64 (a - 1), .pointer (some ⟨b4, 0, none⟩), .bool (byOf m (plS m s).1 (plS m s).2).2.2.1, .bool false] wy := by
          intro h6 wy E
          refine hKn (a - 1).toNat _ _ (by omega) ⟨l ++ [s], sndOf m s, a - 1, (byOf m (plS m s).1 (plS m s).2).1, (byOf m (plS m s).1 (plS m s).2).2.1, ?_, rfl, by omega, by rw [List.length_append]; simp; omega, hpre.snoc hd, fun z hz => ?_, fun b hb => ⟨snd_in W hs hb, ?_⟩, E.pop⟩
          · rw [by_pl W hs]
            cases hb : sndOf m s <;> cases l <;> rfl
          · cases l with
            | nil => cases hz
            | cons q l =>
              rcases List.mem_append.mp hz with hz | hz
              · exact htl z hz
              · rw [List.mem_singleton.mp hz]; exact h6 (by simp)
          · rw [by_pl W hs, hb]; rfl
        have hsl : (clAt m (plS m s).1 (plS m s).2).stack = (clOf m s).stack := hcl.stack
        (refine not_of ?_)
        refine condN_of (fun h3 => ?_) (fun h3 => ?_)
        · have hne : l ≠ [] := fun h => by rw [h] at h3; cases h3
          (refine fad_of ?_)
          refine E.ld (.head _) rfl ?_
          refine (hv.ext e7).len_of ?_
          (refine eql_of ?_)
          refine condP_of (fun h4 => ?_) (fun h4 => ?_)
          · intro _
            refine bad (fun C => ?_) _ E.toExt
            have := (key C).2.2 hne
            rw [hsl] at h4
            omega
          refine E.lds (.tail _ (.tail _ (.head _))) rfl ?_
          refine E.lds (.tail _ (.head _)) rfl ?_
          refine c_caller (V.ext E.toExt) B (at_pl W hs) (fun w8 e8 => ?_)
          replace E := E.ext e8
          refine ext_of rfl ?_
          refine ext_of rfl ?_
          refine ext_of rfl ?_
          refine En.sts' (vs := [.int .i64 (byOf m (plS m s).1 (plS m s).2).1, .int .i64 (byOf m (plS m s).1 (plS m s).2).2.1]) [_] rfl E rfl rfl (by simp [Value.oneCell']) (fun w9 E _ => ?_)
          exact go (fun _ => by rw [hsl] at h4; omega) _ E
        · have he : l = [] := List.isEmpty_iff.mp h3
          refine E.lds (.tail _ (.tail _ (.head _))) rfl ?_
          refine E.lds (.tail _ (.head _)) rfl ?_
          refine c_caller (V.ext E.toExt) B (at_pl W hs) (fun w8 e8 => ?_)
          replace E := E.ext e8
          refine ext_of rfl ?_
          refine ext_of rfl ?_
          refine ext_of rfl ?_
          refine En.sts' (vs := [.int .i64 (byOf m (plS m s).1 (plS m s).2).1, .int .i64 (byOf m (plS m s).1 (plS m s).2).2.1]) [_] rfl E rfl rfl (by simp [Value.oneCell']) (fun w9 E _ => ?_)
          exact go (fun h => absurd he h) _ E
    · refine ⟨[], topSp m, liveM m, (topP m).1, (topP m).2.1, ?_, rfl, hlv0, by simp, rfl, fun s hs => (by cases hs), fun s hs => ?_, E⟩
      · cases h : topSp m with
        | none => rw [top_noneP h]; rfl
        | some b => rw [(top_inW W h).2]; rfl
      · obtain ⟨h1, h2⟩ := top_inW W hs
        exact ⟨h1, by rw [h2]⟩
end
end Go.PT
namespace Go.PT
section
variable {p : Pg} {m : Mc}
theorem MOK.ord (M : MOK p m) : OrdP m := by
  refine ⟨M.oall, M.olen, ?_⟩
  have h1 := M.now1
  by_cases hn : m.now = -1
  · exact .inl hn
  · have h0 : 0 ≤ m.now := by omega
    obtain ⟨t1, t2⟩ := M.top h0
    refine .inr ⟨?_, t2⟩
    unfold Go.PT.topP
    rw [if_pos ⟨h0, M.now2⟩]
    have := List.length_pos_iff.mpr t1
    show decide (0 ≤ nF m m.now - 1) = true
    rw [decide_eq_true]
    unfold nF; omega
theorem MOK.chp (M : MOK p m) : ChP m := M.way
theorem OrdP.nows (O : OrdP m) : m.now = -1 ∨ (0 ≤ m.now ∧ m.now < m.pages.length ∧ (pnAt m m.now).frames ≠ [] ∧ m.order.getLast? = some m.now) := by
  rcases O.2.2 with h | ⟨h1, h2⟩
  · exact .inl h
  · right
    unfold topP at h1
    split at h1
    · rename_i hn
      have h3 := of_decide_eq_true h1
      refine ⟨hn.1, hn.2, fun e => ?_, h2⟩
      unfold nF at h3
      rw [e] at h3
      simp at h3
    · cases h1
theorem mok_iff : MOK p m ↔ progOk p = true ∧ (inB m.pages.length 1 4 && inB m.cells 14 60) = true ∧ OrdP m ∧ (inB m.born 1 30 && (saidOk p m.said && (inB m.code 0 3 && (decide (m.code = 1) == decide (m.now = -1))))) = true ∧ (m.twins.length : Int) ≤ m.born ∧ SH p m ∧ ChP m := by
  constructor
  · intro M
    refine ⟨M.prog, ?_, M.ord, ?_, M.ntw, M.sh, M.chp⟩
    · have := M.rooms1
      have := M.rooms2
      rw [inB_t (by omega) (by omega), inB_t M.cells1 M.cells2]; rfl
    · rw [inB_t M.born1 M.born2, M.said, inB_t M.code1 M.code2]
      have h1 := M.now1
      have h2 := M.ended
      have : decide (m.code = 1) = decide (m.now = -1) := by
        rw [decide_eq_decide, h2]; omega
      rw [this]
      simp
  · rintro ⟨h1, h2, O, h4, h5, S, C⟩
    rw [Bool.and_eq_true, inB_iff, inB_iff] at h2
    rw [Bool.and_eq_true, Bool.and_eq_true, Bool.and_eq_true, inB_iff, inB_iff] at h4
    obtain ⟨⟨r1, r2⟩, c1, c2⟩ := h2
    obtain ⟨⟨b1, b2⟩, sd, ⟨k1, k2⟩, he⟩ := h4
    have hn := O.nows
    have he : decide (m.code = 1) = decide (m.now = -1) := by simpa using he
    rw [decide_eq_decide] at he
    refine ⟨h1, by omega, by omega, c1, c2, O.2.1, O.1, by omega, by omega, fun h0 => ?_, b1, b2, k1, k2, sd, ?_, h5, S.pn, S.tw, C⟩
    · rcases hn with h | ⟨a, b, c, d⟩
      · omega
      · exact ⟨c, d⟩
    · rw [he]; omega
end
attribute [local irreducible] ldT ldsT stT stsT allocT boxT bldT bslT nilT fadT ixaT fldT extT lenT pickT binT notT cviT opT opU condT clT clvT ivT loopT arT ndT World.cell? World.frozen? World.alloc World.drew World.setCell Blk Cells Sl
section
variable {m : Mc} {w : World} {up uo ut us : Value} {R : VW}
theorem c_machOk {p : Pg} {u : Value} (hp : Sl kMeth Any w [] p u) (hpl : p.length ≤ 1073741824) (hml : ∀ m ∈ p, m.ops.length ≤ 1073741824) (V : MachV w m up uo ut us) (B : MB m)
    (hR : ∀ w' bb, Ext w w' → (bb = true ↔ MOK p m) → R (.bool bb) w') : clT PR 37 [.agg #[u], .agg (machCells m up uo ut us).toArray] w R := by
  refine Fimpl_MachOk.cl ?_
  unfold Fimpl_MachOk
  have hBt := B.nt.1
  have hBs := B.ns
  have E := En.start w
  refine E.box (fun b1 w1 E _ => ?_)
  refine E.box (fun b2 w2 E _ => ?_)
  have bad : ¬ MOK p m → ∀ wy, Ext w wy → R (.bool false) wy := fun h wy e => hR _ _ e ⟨fun h' => (nomatch h'), fun h' => absurd h' h⟩
  refine E.lds (.tail _ (.head _)) rfl ?_
  refine c_progOk (hp.ext E.toExt) hpl hml (fun w3 e3 => ?_)
  replace E := E.ext e3
  (refine not_of ?_)
  refine condN_of (fun h1 => bad (fun M => by rw [M.prog] at h1; cases h1) _ E.toExt) (fun h1 => ?_)
  (refine fad_of ?_)
  refine E.ld (.head _) rfl ?_
  refine V.pages.len_of ?_
  (refine fad_of ?_)
  refine E.ld (.head _) rfl ?_
  refine c_roomsOk ?_
  (refine not_of ?_)
  refine condN_of (fun h2 => bad (fun M => by rw [(mok_iff.mp M).2.1] at h2; cases h2) _ E.toExt) (fun h2 => ?_)
  refine E.lds (.head _) rfl ?_
  refine c_ordered (V.ext E.toExt) B (fun w4 bb e4 hbb => ?_)
  replace E := E.ext e4
  (refine not_of ?_)
  refine condN_of (fun h3 => bad (fun M => by rw [hbb.mpr M.ord] at h3; cases h3) _ E.toExt) (fun h3 => ?_)
  refine E.lds (.tail _ (.head _)) rfl ?_
  (refine fad_of ?_)
  refine E.ld (.head _) rfl ?_
  (refine fad_of ?_)
  refine E.ld (.head _) rfl ?_
  (refine fad_of ?_)
  refine E.ld (.head _) rfl ?_
  (refine fad_of ?_)
  refine E.ld (.head _) rfl ?_
  (refine eql_of ?_)
  refine c_told (hp.ext E.toExt) (V.said.ext E.toExt) hpl (by omega) (fun w5 e5 => ?_)
  replace E := E.ext e5
  (refine not_of ?_)
  refine condN_of (fun h4 => bad (fun M => by rw [(mok_iff.mp M).2.2.2.1] at h4; cases h4) _ E.toExt) (fun h4 => ?_)
  (refine fad_of ?_)
  refine E.ld (.head _) rfl ?_
  refine V.twins.len_of ?_
  (refine fad_of ?_)
  refine E.ld (.head _) rfl ?_
  (refine gtr_of ?_)
  refine condGt_of (fun h5 => bad (fun M => by have := M.ntw; omega) _ E.toExt) (fun h5 => ?_)
  refine E.lds (.head _) rfl ?_
  refine E.lds (.tail _ (.head _)) rfl ?_
  refine c_shaped (V.ext E.toExt) B (hp.ext E.toExt) hpl (fun w6 b6 e6 hb6 => ?_)
  replace E := E.ext e6
  refine cond_of (fun h6 => ?_) (fun h6 => bad (fun M => by rw [hb6.mpr M.sh] at h6; cases h6) _ E.toExt)
  have S := hb6.mp h6
  refine E.lds (.head _) rfl ?_
  refine c_chained S (V.ext E.toExt) B (fun w7 b7 e7 hb7 => ?_)
  replace E := E.ext e7
  refine hR _ _ E.toExt (hb7.trans ⟨fun C => mok_iff.mpr ⟨h1, h2, hbb.mp h3, h4, h5, S, C⟩, fun M => M.chp⟩)
end
end Go.PT
namespace Go.PT
attribute [local irreducible] ldT ldsT stT stsT allocT boxT bldT bslT nilT fadT ixaT fldT extT lenT pickT binT notT cviT opT opU condT clT clvT ivT loopT arT ndT World.cell? World.frozen? World.alloc World.drew World.setCell Blk Cells Sl
section
variable {m : Mc} {w : World} {up uo ut us : Value} {R : VW}
def zeroM : List Value := [.int .i64 0, .slice none 0 0, .slice none 0 0, .int .i64 0, .slice none 0 0, .int .i64 0, .slice none 0 0, .int .i64 0]
theorem cellsF_one {f : Fm} {u v : Value} (hu : u.oneCell' = true) (hv : v.oneCell' = true) : ∀ x ∈ cellsF f u v, x.oneCell' = true := by
  intro x hx; simp only [cellsF, List.mem_cons, List.not_mem_nil, or_false] at hx; rcases hx with h | h | h | h | h <;> rw [h] <;> first | rfl | exact hu | exact hv
theorem cellsT_one {f : Tw} {u v : Value} (hu : u.oneCell' = true) (hv : v.oneCell' = true) : ∀ x ∈ cellsT f u v, x.oneCell' = true := by
  intro x hx; simp only [cellsT, List.mem_cons, List.not_mem_nil, or_false] at hx; rcases hx with h | h | h | h | h | h | h | h <;> rw [h] <;> first | rfl | exact hu | exact hv
theorem cellsC_one {f : Cl} {u v : Value} (hu : u.oneCell' = true) (hv : v.oneCell' = true) : ∀ x ∈ cellsC f u v, x.oneCell' = true := by
  intro x hx; simp only [cellsC, List.mem_cons, List.not_mem_nil, or_false] at hx; rcases hx with h | h | h | h | h | h <;> rw [h] <;> first | rfl | exact hu | exact hv
theorem machCells_one {f : Mc} {a b c d : Value} (ha : a.oneCell' = true) (hb : b.oneCell' = true) (hc : c.oneCell' = true) (hd : d.oneCell' = true) : ∀ x ∈ machCells f a b c d, x.oneCell' = true := by
  intro x hx; simp only [machCells, List.mem_cons, List.not_mem_nil, or_false] at hx; rcases hx with h | h | h | h | h | h | h | h <;> rw [h] <;> first | rfl | assumption
end
end Go.PT
namespace Go.PT
section
variable {L : Lab} {w : World} {b n : Nat} {p : Pg} {m : Mc} {h : Hp} {ix : Sp → Int} {up uo ut us u : Value}
theorem MM.own (S : MM L w b m up uo ut us) (hp : Plain m) : MOwn L w m up uo ut us :=
  ⟨S.pages.mapO (kd' := kPn) (show kPn.sz = kPnO.sz from rfl) (fun j g es hx hK => by
    obtain ⟨u, rfl, hu⟩ := hK
    exact ⟨u, rfl, frames_taken hu (hp g (List.mem_of_getElem? hx))⟩), S.order, S.twins, S.said⟩
theorem MOwn.one (O : MOwn L w m up uo ut us) : ∀ x ∈ machCells m up uo ut us, x.oneCell' = true := machCells_one O.pages.one O.order.one O.twins.one O.said.one
theorem MOwn.inR {M : Lab} (O : MOwn M w m up uo ut us) (ha : Apart L M) : MOwn (joinL L [] M) w m up uo ut us :=
  ⟨O.pages.inR (q := []) ha, O.order.inR (q := []) ha, O.twins.inR (q := []) ha, O.said.inR (q := []) ha⟩
theorem MOwn.inL {M : Lab} {q : List Nat} (O : MOwn L w m up uo ut us) : MOwn (joinL L q M) w m up uo ut us := ⟨O.pages.inL, O.order.inL, O.twins.inL, O.said.inL⟩
theorem MOwn.mm {t : Nat} {z : Array Value} {k : VW} {L0 : Lab} {w0 : World} {l : List (Nat × List Value)} (O : MOwn L w m up uo ut us) (P : Plain m) (E : En L0 w0 L w l) (hz : z.toList.length = 8)
    (hk : ∀ b w' L', En L0 w0 L' w' l → Mut L w L' w' → MM L' w' b m up uo ut us → k (.pointer (some ⟨b, 0, none⟩)) w') : allocT t z w fun p w1 => stsT 8 p (.agg (machCells m up uo ut us).toArray) w1 fun w2 => k p w2 := by
  refine al_of' (fun b6 w6 e6 hb6 k6 => ?_)
  refine sts_of' (vs := machCells m up uo ut us) rfl k6 rfl hz O.one (fun w7 e7 k7 => ?_)
  have e67 : Ext w w7 := e6.trans' e7 (fun _ _ h => h) (fun x hx he => by omega)
  have hl6 : b6 < w7.heap.size := Blk.lt k7
  have hap : Apart L (lab1 b6 []) := apart_of E.mu.lim (lab1_born hb6)
  have mj : Mut L w (joinL L [] (lab1 b6 [])) w7 := Mut.join e67 E.mu.lim (lab1_born (p := []) hb6) (lab1_lim (p := []) hl6)
  have hlab : joinL L [] (lab1 b6 []) b6 = some [] := joinL_right (by simp [lab1]) (hap b6 [] (by simp [lab1]))
  have O' := (O.ext e67).inL (q := []) (M := lab1 b6 [])
  exact hk b6 w7 _ (E.call mj) mj ⟨k7, hlab, O'.pages.mapO (kd' := kPnO) (show kPnO.sz = kPn.sz from rfl) (fun j g es hx hK => by
    obtain ⟨u, rfl, hu⟩ := hK
    exact ⟨u, rfl, frames_given hu (P g (List.mem_of_getElem? hx))⟩), O'.order, O'.twins, O'.said, mj.lim⟩
end
attribute [local irreducible] ldT ldsT stT stsT allocT boxT bldT bslT nilT fadT ixaT fldT extT lenT pickT binT notT cviT opT opU condT clT clvT ivT loopT arT ndT World.cell? World.frozen? World.alloc World.drew World.setCell Blk Cells Sl
end Go.PT
namespace Go.PT
def bare0 (r : Nat) (cells : Int) : Mc := { bareM r cells with born := 0 }
def bareK (r : Nat) (cells : Int) (k : Nat) : Mc := ⟨cells, List.replicate k ⟨-1, []⟩, (orderN r).take k, 0, [], 0, [], 0⟩
theorem orderN_get {r k : Nat} (h : k < r) : (orderN r)[k]? = some (((k : Int) + 1).tmod r) := by
  unfold orderN
  rw [List.getElem?_map, List.getElem?_range h]; rfl
theorem orderN_len {r : Nat} : (orderN r).length = r := by unfold orderN; simp
attribute [local irreducible] ldT ldsT stT stsT allocT boxT bldT bslT nilT fadT ixaT fldT extT lenT pickT binT notT cviT opT opU condT clT clvT ivT loopT arT ndT World.cell? World.frozen? World.alloc World.drew World.setCell Blk Cells Sl
section
variable {w : World} {R : VW}
theorem c_bare {r : Nat} {cells : Int} (r1 : 1 ≤ r) (r2 : r ≤ 4)
    (hR : ∀ w' M up uo, Ext w w' → Born w M → Lim M w' → MOwn M w' (bare0 r cells) up uo (.slice none 0 0) (.slice none 0 0) → R (.agg (machCells (bare0 r cells) up uo (.slice none 0 0) (.slice none 0 0)).toArray) w') :
    clT PR 97 [.int .i64 r, .int .i64 cells] w R := by
  refine Fimpl_bare.cl ?_
  unfold Fimpl_bare
  have E := En.start w
  refine E.al (fun b4 w1 E _ => ?_)
  refine bld_of (cs := (machCells (bareK r cells 0) (.slice none 0 0) (.slice none 0 0) (.slice none 0 0) (.slice none 0 0)).toArray) rfl ?_
  refine E.als (vs := machCells (bareK r cells 0) (.slice none 0 0) (.slice none 0 0) (.slice none 0 0) (.slice none 0 0)) rfl rfl rfl (machCells_one rfl rfl rfl rfl) (fun b5 w2 E _ => ?_)
  refine loop_of (fun n s wx => ∃ (k : Nat) (vp vo : Value) (L : Lab), s = [.int .i64 r, .pointer (some ⟨b4, 0, none⟩), .pointer (some ⟨b5, 0, none⟩), .int .i64 r, .int .i64 k] ∧ k + n = r ∧
      En noL w L wx [(b5, machCells (bareK r cells k) vp vo (.slice none 0 0) (.slice none 0 0)), (b4, zeroM)] ∧ Sl kPn (Own L) wx [0] (List.replicate k ⟨-1, []⟩) vp ∧ Sl kInt (Own L) wx [1] ((orderN r).take k) vo) ?_ (m := r)
    ⟨0, _, _, noL, rfl, by omega, E, Sl.none0, Sl.none0⟩
  clear E
  rintro n s wx Kn ⟨k, vp, vo, L, rfl, hk, E, hp, ho⟩ hKn
  intro _
  simp only [List.headD_cons, List.tail_cons]
  (refine lss_of ?_)
  refine condLt_of (fun hlt => ?_) (fun hge => ?_)
  · (refine fad_of ?_)
    refine E.ld (.head _) rfl ?_
    refine bld_of (cs := #[.int .i64 (-1), .slice none 0 0]) rfl ?_
    refine E.bsl rfl rfl rfl (fun b6 w6 E e6 => ?_)
    have E0 := E
    refine grow_one (kd := kPn) ⟨-1, []⟩ (by kernel_rfl) (hp.keepX e6) (E.blk (.head _)) ⟨_, rfl, Sl.none0⟩ rfl (by rw [List.length_replicate]; omega) E.mu.lim (fun v7 w7 L7 g7 _ h7 => ?_)
    replace E := E.grow g7
    replace ho := (ho.keepX e6).grow g7 E0.mu.lim (fun r h => by cases h)
    replace E := E.pop
    (refine fad_of ?_)
    refine En.st' [] E (show 1 < 8 by decide) h7.one (fun w8 E e8 => ?_)
    replace h7 := h7.loc e8
    replace ho := ho.loc e8
    have d8 := (Fr.refl (fun _ => False) w8).drew
    replace E := E.drew
    replace h7 := h7.keepX (w' := w8.drew) d8
    replace ho := ho.keepX (w' := w8.drew) d8
    (refine fad_of ?_)
    refine E.ld (.head _) rfl ?_
    (refine add_of (by (omega)) (by (omega)) ?_)
    refine rem_of (by omega) ?_
    refine E.bsl rfl rfl rfl (fun b9 w9 E e9 => ?_)
    refine ⟨E.ld (.tail _ (.head _)) rfl rfl, ?_⟩
    have E1 := E
    refine grow_one (kd := kInt) (((k : Int) + 1).tmod r) (by kernel_rfl) (ho.keepX e9) (E.blk (.head _)) rfl rfl (by rw [List.length_take]; omega) E.mu.lim (fun v10 w10 L10 g10 _ h10 => ?_)
    replace E := E.grow g10
    replace h7 := (h7.keepX e9).grow g10 E1.mu.lim (fun r h => by cases h)
    replace E := E.pop
    (refine fad_of ?_)
    refine En.st' [] E (show 2 < 8 by decide) h10.one (fun w11 E e11 => ?_)
    replace h7 := h7.loc e11
    replace h10 := h10.loc e11
    (refine add_of (by (omega)) (by (omega)) ?_)
    have e1 : List.replicate (k + 1) (⟨-1, []⟩ : Pn) = List.replicate k ⟨-1, []⟩ ++ [⟨-1, []⟩] := List.replicate_succ'
    have e2 : (orderN r).take (k + 1) = (orderN r).take k ++ [((k : Int) + 1).tmod r] := by rw [List.take_add_one, orderN_get (by omega)]; rfl
    exact hKn (n - 1) _ _ (by omega) ⟨k + 1, v7, v10, L10, rfl, by omega, E, by rw [e1]; exact h7, by rw [e2]; exact h10⟩
  · intro _
    have hkr : k = r := by omega
    subst hkr
    have e : bareK k cells k = bare0 k cells := by
      unfold bareK bare0 bareM
      rw [List.take_of_length_le (by rw [orderN_len]; omega)]
    rw [e] at E
    rw [List.take_of_length_le (by rw [orderN_len]; omega)] at ho
    have O : MOwn L wx (bare0 k cells) vp vo (.slice none 0 0) (.slice none 0 0) := ⟨hp, ho, Sl.none0, Sl.none0⟩
    refine E.lds (.head _) rfl ?_
    refine En.sts' (vs := machCells (bare0 k cells) vp vo (.slice none 0 0) (.slice none 0 0)) [_] rfl E rfl rfl O.one (fun w12 E e12 => ?_)
    refine E.lds (.tail _ (.head _)) rfl ?_
    exact hR _ _ _ _ E.toExt E.born E.mu.lim (O.loc e12)
def mc0 : Mc := ⟨0, [], [], 0, [], 0, [], 0⟩
theorem mown0 {L : Lab} {w : World} : MOwn L w mc0 (.slice none 0 0) (.slice none 0 0) (.slice none 0 0) (.slice none 0 0) := ⟨Sl.none0, Sl.none0, Sl.none0, Sl.none0⟩
def newR (p : Pg) (r c : Int) : Mc × Bool := if (progOk p && (inB r 1 4 && inB c 14 60)) = true then (newM p r.toNat c, true) else (mc0, false)
theorem bareM_pn {r : Nat} {c i : Int} (i0 : 0 ≤ i) (i1 : i < r) : pnAt (bareM r c) i = ⟨-1, []⟩ := rep_getD i0 i1
theorem bareM_len {r : Nat} {c : Int} : (bareM r c).pages.length = r := by unfold bareM; simp
theorem bare0_plain {r : Nat} {c : Int} : Plain (bare0 r c) := by
  intro g hg f hf
  have : g = ⟨-1, []⟩ := (List.mem_replicate.mp hg).2
  subst this
  cases hf
theorem newM_put {p : Pg} {r : Nat} {c : Int} : newM p r c = putPn (bareM r c) 0 ⟨-1, [newF p 0 []]⟩ := rfl
theorem MM.blkAt {L : Lab} {b : Nat} {m : Mc} {up uo ut us : Value} {w' : World} {b2 : Nat} {cs : List Value} {pre : List Value} (q : List Nat) (S : MM L w b m up uo ut us pre) (e : Ext w w') (hb : w.heap.size ≤ b2) (k : Blk w' b2 cs) :
    MM (joinL L [] (lab1 b2 q)) w' b m up uo ut us pre ∧ joinL L [] (lab1 b2 q) b2 = some q ∧ Mut L w (joinL L [] (lab1 b2 q)) w' := by
  have hl := k.lt
  refine ⟨(S.ext e).join (q := []) (lab1_lim (p := q) hl), joinL_right (by simp [lab1]) (apart_of S.lim (lab1_born (p := q) hb) b2 q (by simp [lab1])), Mut.join (q := []) e S.lim (lab1_born (p := q) hb) (lab1_lim (p := q) hl)⟩
def movR (p : Pg) (h : Hp) (r c : Int) : Mc × Bool := if (heapOk p h && (inB r 1 4 && inB c 14 60)) = true then (moveInM h r.toNat c, true) else (mc0, false)
def inK (h : Hp) (r : Nat) (c : Int) (k : Nat) : Mc := { bareM r c with twins := (h.calls.take k).map twinOf, born := h.born, said := h.said, code := h.code, now := -1 }
theorem inK_plain {h : Hp} {r k : Nat} {c : Int} : Plain (inK h r c k) := by
  intro g hg f hf
  have : g = ⟨-1, []⟩ := (List.mem_replicate.mp hg).2
  subst this
  cases hf
theorem c_moveIn {p : Pg} {h : Hp} {r c : Int} {u uc uh : Value} (hp : Sl kMeth Any w [] p u) (hpl : p.length ≤ 1073741824) (hml : ∀ m ∈ p, m.ops.length ≤ 1073741824) (hh : HeapV w h uc uh)
    (hR : ∀ w' M up' uo' ut' us', Ext w w' → Born w M → Lim M w' → MOwn M w' (movR p h r c).1 up' uo' ut' us' → R (.tuple #[.agg (machCells (movR p h r c).1 up' uo' ut' us').toArray, .bool (movR p h r c).2]) w') :
    clT PR 32 [.agg #[u], .agg (heapCells h uc uh).toArray, .int .i64 r, .int .i64 c] w R := by
  refine Fimpl_MoveIn.cl ?_
  unfold Fimpl_MoveIn
  have E := En.start w
  refine E.box (fun b1 w1 E _ => ?_)
  refine E.box (fun b2 w2 E _ => ?_)
  refine E.al (fun b3 w3 E _ => ?_)
  have no : ∀ {w5 : World} (E : En noL w noL w5 [(b3, zeroM), (b2, heapCells h uc uh), (b1, [u])]), movR p h r c = (mc0, false) →
      bldT #[(.int .i64 0), (.slice none 0 0), (.slice none 0 0), (.int .i64 0), (.slice none 0 0), (.int .i64 0), (.slice none 0 0), (.int .i64 0)] [] fun t19 => stsT 8 (.pointer (some ⟨b3, 0, none⟩)) t19 w5 fun w5 => ldsT 8 (.pointer (some ⟨b3, 0, none⟩)) w5 fun r6 => R (.tuple #[r6, (.bool false)]) w5 := by
    intro w5 E hr
    refine bld_of (cs := zeroM.toArray) rfl ?_
    refine En.sts' (vs := zeroM) [] rfl E rfl rfl (fun u hu => List.all_eq_true.mp rfl u hu) (fun w9 E e9 => ?_)
    refine E.lds (.head _) rfl ?_
    rw [hr] at hR
    exact hR _ _ _ _ _ _ E.toExt E.born E.mu.lim mown0
  refine E.lds (.tail _ (.tail _ (.head _))) rfl ?_
  refine E.lds (.tail _ (.head _)) rfl ?_
  refine c_heapOk (hp.ext E.toExt) hpl hml (hh.ext E.toExt) (fun w4 e4 => ?_)
  replace E := E.ext e4
  (refine not_of ?_)
  refine condN_of (fun h1 => no E (by unfold movR; rw [h1]; rfl)) (fun h1 => ?_)
  refine c_roomsOk ?_
  (refine not_of ?_)
  refine condN_of (fun h2 => no E (by unfold movR; rw [h2, Bool.and_false]; rfl)) (fun h2 => ?_)
  have he : movR p h r c = (moveInM h r.toNat c, true) := by unfold movR; rw [h1, h2]; rfl
  rw [he] at hR
  rw [Bool.and_eq_true, inB_iff, inB_iff] at h2
  obtain ⟨k, rfl⟩ : ∃ k : Nat, r = k := ⟨r.toNat, by omega⟩
  rw [Int.toNat_natCast] at hR
  have H := hok_iff.mp h1
  have SN := moveIn_sim H (cells := c) (rooms := k) (by omega) (by omega) h2.2.1 h2.2.2
  refine c_bare (by omega) (by omega) (fun w5 M up uo e5 hb5 hl5 hO => ?_)
  have hO := hO.inR (apart_of E.mu.lim hb5)
  replace E := E.join [] e5 hb5 hl5
  refine hO.mm bare0_plain E rfl (fun b6 w6 L6 E m6 S => ?_)
  replace E := E.drew
  replace S := S.drew
  (refine fad_of ?_)
  refine E.ld (.tail _ (.head _)) rfl ?_
  (refine fad_of ?_)
  refine E.ld (.tail _ (.head _)) rfl ?_
  (refine fad_of ?_)
  refine E.ld (.tail _ (.head _)) rfl ?_
  refine c_clone (E.any (q := []) hh.said) hh.ns (fun w7 v7 M7 e7 hb7 hl7 h7 => ?_)
  have g7 := h7.inR (q := [3]) (apart_of E.mu.lim hb7)
  replace E := E.join [3] e7 hb7 hl7
  replace S := (S.ext e7).join (q := [3]) hl7
  refine ⟨E.ld (.tail _ (.head _)) rfl rfl, ?_⟩
  refine ⟨E.ld (.tail _ (.head _)) rfl rfl, ?_⟩
  (refine fad_of ?_)
  refine S.stM (q := 5) (m' := { bare0 k c with born := h.born }) rfl (by decide) rfl S.pages S.order S.twins S.said (fun w8 m8 e8 S => ?_)
  replace E := E.call m8
  replace g7 : Sl kPair (Own _) w8 [3] h.said v7 := g7.other e8 S.lab (by simp)
  refine ⟨E.ld (.tail _ (.head _)) rfl rfl, ?_⟩
  (refine fad_of ?_)
  refine S.stM (q := 6) (m' := { bare0 k c with born := h.born, said := h.said }) g7.one (by decide) rfl S.pages S.order S.twins g7 (fun w9 m9 _ S => ?_)
  replace E := E.call m9
  refine ⟨E.ld (.tail _ (.head _)) rfl rfl, ?_⟩
  (refine fad_of ?_)
  refine S.stM (q := 7) (m' := { bare0 k c with born := h.born, said := h.said, code := h.code }) rfl (by decide) rfl S.pages S.order S.twins S.said (fun w10 m10 _ S => ?_)
  replace E := E.call m10
  (refine fad_of ?_)
  refine S.stM (q := 3) (m' := inK h k c 0) rfl (by decide) rfl S.pages S.order S.twins S.said (fun w11 m11 _ S => ?_)
  replace E := E.call m11
  (refine fad_of ?_)
  refine E.ld (.tail _ (.head _)) rfl ?_
  refine hh.calls.len_of ?_
  have hn := hh.n
  refine loop_of (fun n s wx => ∃ (j : Nat) (vt : Value) (L : Lab), s = [.pointer (some ⟨b2, 0, none⟩), .pointer (some ⟨b3, 0, none⟩), .bool false, .pointer (some ⟨b6, 0, none⟩), uc, .int .i64 h.calls.length, .int .i64 j] ∧ j + n = h.calls.length ∧
      En noL w L wx [(b3, zeroM), (b2, heapCells h uc uh), (b1, [u])] ∧ MM L wx b6 (inK h k c j) up uo vt v7) ?_ (m := h.calls.length)
    ⟨0, _, _, rfl, by omega, E, S⟩
  clear E S g7 m11 m10 m9 m8 m6
  rintro n s wx Kn ⟨j, vt, L, rfl, hj, E, S⟩ hKn
  intro _
  simp only [List.headD_cons, List.tail_cons]
  (refine lss_of ?_)
  refine condLt_of (fun hlt => ?_) (fun hge => ?_)
  · have hx : h.calls[j]? = some (callAt h.calls j) := by have := callAt_get (cs := h.calls) (i := (j : Int)) (by omega) (by omega); rwa [Int.toNat_natCast] at this
    have hnt := hh.nt _ (List.mem_of_getElem? hx)
    refine call_ix hh.calls (i := (j : Int)) (by omega) hlt (fun b o u1 u2 hc hu1 hu2 => ?_)
    replace hc : Cells w b o (cellsC (callAt h.calls j) u1 u2) := hc
    refine lds_of (hc.ext E.toExt) rfl ?_
    refine E.als (vs := cellsC (callAt h.calls j) u1 u2) rfl rfl rfl (cellsC_one hu1.one hu2.one) (fun b7 w7 E e7 => ?_)
    replace E := E.drew
    replace S := (S.ext e7).drew
    (refine fad_of ?_)
    refine ld_of (S.cell rfl) ?_
    refine E.lds (.head _) rfl ?_
    refine c_callCopied (hu1.ext E.toExt) (hu2.ext E.toExt) hnt.1 hnt.2 (fun w8 M8 u8 v8 e8 hb8 hl8 h8 g8 => ?_)
    have hap := apart_of E.mu.lim hb8
    replace h8 := h8.inR (q := [2, j]) hap
    replace g8 := g8.inR (q := [2, j]) hap
    replace E := E.join [2, j] e8 hb8 hl8
    replace S := (S.ext e8).join (q := [2, j]) hl8
    refine ⟨ld_of (S.cell rfl) rfl, ?_⟩
    refine bld_of fill_tw ?_
    refine E.bsl rfl rfl rfl (fun b9 w9 E e9 => ?_)
    replace S := S.ext e9
    refine ⟨ld_of (S.cell rfl) rfl, ?_⟩
    have hlen : (inK h k c j).twins.length = j := by
      show ((h.calls.take j).map twinOf).length = j
      rw [List.length_map, List.length_take]; omega
    refine grow_one (kd := kTw) (twinOf (callAt h.calls j)) (by kernel_rfl) S.twins (E.blk (.head _)) ⟨u8, v8, rfl, by rw [hlen]; exact h8.keepX e9, by rw [hlen]; exact g8.keepX e9⟩ rfl (by rw [hlen]; omega) S.lim (fun v10 w10 L10 g10 d10 h10 => ?_)
    replace S := S.growR (q := 2) g10 (fun h => by cases h) (fun h => by cases h) (fun _ => d10) (fun h => by cases h) (.inr (.inr (.inl rfl)))
    replace E := E.grow g10
    have e2 : (inK h k c (j + 1)).twins = (inK h k c j).twins ++ [twinOf (callAt h.calls j)] := by
      show (h.calls.take (j + 1)).map twinOf = (h.calls.take j).map twinOf ++ [_]
      rw [List.take_add_one, hx, List.map_append]; rfl
    (refine fad_of ?_)
    refine S.stM (q := 4) (m' := inK h k c (j + 1)) h10.one (by decide) rfl S.pages S.order (by rw [e2]; exact h10) S.said (fun w11 m11 _ S => ?_)
    replace E := E.call m11
    (refine add_of (by (omega)) (by (omega)) ?_)
    exact hKn (n - 1) _ _ (by omega) ⟨j + 1, v10, L10, rfl, by omega, E.pop.pop, S⟩
  · intro _
    have hjj : h.calls.length ≤ j := by omega
    have eK : inK h k c j = { inM h k c with now := -1 } := by
      unfold inK inM
      rw [List.take_of_length_le hjj]
    rw [eK] at S
    have P0 : Plain ({ inM h k c with now := -1 } : Mc) := eK ▸ inK_plain
    (refine fad_of ?_)
    refine E.ld (.tail _ (.head _)) rfl ?_
    (refine geq_of ?_)
    refine condGe_of (fun h0 => ?_) (fun h0 => ?_)
    · have h3 := H.now2
      have em : moveInM h k c = { loadM { inM h k c with now := -1 } h.now 0 with now := 0 } := by
        unfold moveInM
        rw [if_neg (by omega)]; rfl
      have hf := H.at h0 h3
      (refine fad_of ?_)
      refine E.ld (.tail _ (.head _)) rfl ?_
      refine c_put S (Int.le_refl 0) (by show (0 : Int) < ((List.replicate k (⟨-1, []⟩ : Pn)).length : Nat); rw [List.length_replicate]; omega) h0 (by show h.now < ((h.calls.map twinOf).length : Nat); rw [List.length_map]; omega) ?_ (fun w12 L12 m12 S => ?_)
      · have e9 : twAt ({ inM h k c with now := -1 } : Mc) h.now = twinOf (callAt h.calls h.now) := inM_tw (h := h) (rooms := k) (cells := c) h0 h3
        rw [e9]
        have := hf.m0
        show (callAt h.calls h.now).method ≠ -1
        omega
      replace E := E.call m12
      (refine fad_of ?_)
      refine S.stM (q := 3) (m' := moveInM h k c) rfl (by decide) (by rw [em]; rfl) (by rw [em]; exact S.pages) (by rw [em]; exact S.order) (by rw [em]; exact S.twins) (by rw [em]; exact S.said) (fun w13 m13 _ S => ?_)
      replace E := E.call m13
      refine lds_of (S.blk.cells) rfl ?_
      have O := S.own ((SN.mok H).plain)
      refine En.sts' (vs := machCells (moveInM h k c) up uo vt v7) [] rfl E rfl rfl O.one (fun w12 E e12 => ?_)
      refine E.lds (.head _) rfl ?_
      exact hR _ _ _ _ _ _ E.toExt E.born E.mu.lim (O.loc e12)
    · have em : moveInM h k c = { inM h k c with now := -1 } := by
        unfold moveInM
        rw [if_pos h0]
      rw [em] at hR
      refine lds_of (S.blk.cells) rfl ?_
      have O := S.own P0
      refine En.sts' (vs := machCells { inM h k c with now := -1 } up uo vt v7) [] rfl E rfl rfl O.one (fun w12 E e12 => ?_)
      refine E.lds (.head _) rfl ?_
      exact hR _ _ _ _ _ _ E.toExt E.born E.mu.lim (O.loc e12)
end
end Go.PT
namespace Go.PT
open Go.Lib
theorem appZ_of {P : Program} {t tn ty : Nat} {n : Nat} {w : World} {k : VW} (hc : appB P t (P.elem t) 2 = true) (htn : P.underlying tn = some (.int .i64)) (h0 : 0 < n) (hn : n ≤ 8388608)
    (hk : ∀ b w' cs cap, Ext w w' → w.heap.size ≤ b → Blk w' b cs → cs.length = cap * 2 → n ≤ cap → k (.slice (some ⟨b, 0, none⟩) n cap) w') : opT P (Builtin.append_ #[t, tn] ty #[.slice none 0 0, .int .i64 n]) w k := by
  obtain ⟨ht, i, z, hi, hs, hb, hz, hzs⟩ := appB_of hc
  have hold : (Builtin.firstCells i.size 0 (.slice none 0 0)).run P w.drew = .ok ([] : List Value).toArray w.drew := run_firstCells_none w.drew i.size 0 0 0
  have hbn : n * i.bytes ≤ 8388608 * 1024 := Nat.mul_le_mul hn hb
  have h := Lib.run_append_grow_zeros w t tn ty _ i z .i64 .i64 ht htn hi hz none 0 0 [] hold n h0 (by omega) (by omega) (by omega) (by omega) (growslice_fits (by omega) (by rw [Nat.zero_add]; omega))
  refine opR h ?_
  have hg : 0 + n ≤ grownCap w (0 + n) 0 (P.elem t) := grownCap_ge w _ _ _
  rw [Nat.zero_add] at hg ⊢
  have hb := blk_new w.drew ((([] : List Value).toArray ++ Builtin.zeroCells z.cells n ++ Builtin.zeroCells z.cells (grownCap w n 0 (P.elem t) - n))).toList (P.elem t)
  rw [Array.toArray_toList] at hb
  refine hk _ _ _ _ ((Fr.refl _ _).drew.alloc _) (Nat.le_refl _) hb ?_ hg
  have e : ∀ m, (Builtin.zeroCells z.cells m).toList.length = m * 2 := fun m => by rw [Array.length_toList, size_zeroCells, hzs]
  rw [Array.toList_append, Array.toList_append, List.length_append, List.length_append, e, e]
  simp
  omega
attribute [local irreducible] ldT ldsT stT stsT allocT boxT bldT bslT nilT fadT ixaT fldT extT lenT pickT binT notT cviT opT opU condT clT clvT ivT loopT arT ndT World.cell? World.frozen? World.alloc World.drew World.setCell Blk Cells Sl
section
variable {w : World} {R : VW}
theorem c_growV {n : Nat} (hn : n ≤ 8388608) (hR : ∀ w' v M, Ext w w' → Born w M → Lim M w' → Sl kPair (Own M) w' [] [] v → R v w') : clT PR 252 [.slice none 0 0, .int .i64 n] w R := by
  refine Fslices_Grow_Val.cl ?_
  unfold Fslices_Grow_Val
  (refine lss_of ?_)
  refine condLt_of (fun h => absurd h (by omega)) (fun _ => ?_)
  unfold Fslices_Grow_Val.j1
  intro _
  refine opR (w' := w) (v := .int .i64 0) (by kernel_rfl) ?_
  (refine lenS_of ?_)
  (refine sub_of (by (omega)) (by (omega)) ?_)
  (refine sub_of (by (omega)) (by (omega)) ?_)
  (refine gtr_of ?_)
  refine condGt_of (fun h => ?_) (fun h => ?_)
  · refine opR (w' := w) (v := .int .i64 0) (by kernel_rfl) ?_
    refine sliceH_of (sz := 2) (by kernel_rfl) (Int.le_refl 0) (by decide) ?_
    rw [sliced_no (by rfl)]
    simp only [Int.natCast_zero, Int.sub_zero]
    refine appZ_of (by kernel_rfl) (by kernel_rfl) (by omega) hn (fun b w' cs cap e hb kb hl hcap => ?_)
    (refine lenS_of ?_)
    refine sliceH_of (sz := 2) (by kernel_rfl) (Int.le_refl 0) (by omega) ?_
    rw [sliced_zero]
    refine hR _ _ (lab1 b []) e (lab1_born hb) (lab1_lim kb.lt) (Sl.fresh (kb.own (by simp [lab1]) (by show 0 + cap * 2 ≤ _; omega)))
  · exact hR _ _ noL (Fr.refl _ _) (noL_born _) (noL_lim _) Sl.none0
theorem c_concat2 {xs ys : List V} {b : Nat} {u v : Value} (hu : Sl kPair Any w [] xs u) (hv : Sl kPair Any w [] ys v) (hx : xs.length ≤ 4194304) (hy : ys.length ≤ 4194304) (hb : Blk w b [u, v])
    (hR : ∀ w' z, Ext w w' → Sl kPair Any w' [] (xs ++ ys) z → R z w') : clT PR 227 [.slice (some ⟨b, 0, none⟩) 2 2] w R := by
  refine Fslices_Concat_Val.cl ?_
  unfold Fslices_Concat_Val
  (refine lenS_of ?_)
  have rows : List (List V × Value) := [(xs, u), (ys, v)]
  refine loop_of (fun n s wx => w = wx ∧ ((n = 2 ∧ s = [.slice (some ⟨b, 0, none⟩) 2 2, .slice none 0 0, .int .i64 0, .slice (some ⟨b, 0, none⟩) 2 2, .int .i64 2, .int .i64 0]) ∨ (n = 1 ∧ s = [.slice (some ⟨b, 0, none⟩) 2 2, .slice none 0 0, .int .i64 xs.length, .slice (some ⟨b, 0, none⟩) 2 2, .int .i64 2, .int .i64 1]) ∨ (n = 0 ∧ s = [.slice (some ⟨b, 0, none⟩) 2 2, .slice none 0 0, .int .i64 (xs.length + ys.length : Nat), .slice (some ⟨b, 0, none⟩) 2 2, .int .i64 2, .int .i64 2]))) ?_ (m := 2) ⟨rfl, .inl ⟨rfl, rfl⟩⟩
  rintro n s wx Kn ⟨rfl, ⟨rfl, rfl⟩ | ⟨rfl, rfl⟩ | ⟨rfl, rfl⟩⟩ hKn <;> intro _ <;> simp only [List.headD_cons, List.tail_cons]
  · (refine lss_of ?_)
    refine condLt_of (fun _ => ?_) (fun h => absurd h (by decide))
    refine ixaS_of (Int.le_refl 0) (by decide) ?_
    refine ld_of (hb.cells.at 0 rfl) ?_
    refine hu.len_of ?_
    (refine add_of (by (omega)) (by (omega)) ?_)
    (refine lss_of ?_)
    refine condLt_of (fun h => absurd h (by omega)) (fun _ => ?_)
    (refine add_of (by (omega)) (by (omega)) ?_)
    refine hKn 1 _ _ (by decide) ⟨rfl, .inr (.inl ⟨rfl, ?_⟩)⟩
    rw [Int.zero_add]; rfl
  · (refine lss_of ?_)
    refine condLt_of (fun _ => ?_) (fun h => absurd h (by decide))
    refine ixaS_of (by decide) (by decide) ?_
    refine ld_of (hb.cells.at 1 rfl) ?_
    refine hv.len_of ?_
    (refine add_of (by (omega)) (by (omega)) ?_)
    (refine lss_of ?_)
    refine condLt_of (fun h => absurd h (by omega)) (fun _ => ?_)
    (refine add_of (by (omega)) (by (omega)) ?_)
    refine hKn 0 _ _ (by decide) ⟨rfl, .inr (.inr ⟨rfl, ?_⟩)⟩
    rw [Int.natCast_add]; rfl
  · (refine lss_of ?_)
    refine condLt_of (fun h => absurd h (by decide)) (fun _ => ?_)
    intro _
    refine c_growV (by omega) (fun w1 v1 M1 e1 hb1 hl1 h1 => ?_)
    (refine lenS_of ?_)
    have E := En.start w
    have g1 := h1.inR (q := []) (apart_of E.mu.lim hb1)
    replace E := E.join [] e1 hb1 hl1
    refine loop_of (fun n s wx => ∃ (z : Value) (L : Lab), En noL w L wx [] ∧ ((n = 2 ∧ s = [.slice none 0 0, z, .slice (some ⟨b, 0, none⟩) 2 2, .int .i64 2, .int .i64 0] ∧ Sl kPair (Own L) wx [] [] z) ∨ (n = 1 ∧ s = [.slice none 0 0, z, .slice (some ⟨b, 0, none⟩) 2 2, .int .i64 2, .int .i64 1] ∧ Sl kPair (Own L) wx [] xs z) ∨ (n = 0 ∧ s = [.slice none 0 0, z, .slice (some ⟨b, 0, none⟩) 2 2, .int .i64 2, .int .i64 2] ∧ Sl kPair (Own L) wx [] (xs ++ ys) z))) ?_ (m := 2) ⟨v1, _, E, .inl ⟨rfl, rfl, g1⟩⟩
    clear hKn h1 hl1 hb1 e1 E g1
    rintro n s wx Kn ⟨z, L, E, ⟨rfl, rfl, hz⟩ | ⟨rfl, rfl, hz⟩ | ⟨rfl, rfl, hz⟩⟩ hKn <;> intro _ <;> simp only [List.headD_cons, List.tail_cons]
    · (refine lss_of ?_)
      refine condLt_of (fun _ => ?_) (fun h => absurd h (by decide))
      refine ixaS_of (Int.le_refl 0) (by decide) ?_
      refine ld_of ((hb.cells.ext E.toExt).at 0 rfl) ?_
      refine grow_row (by kernel_rfl) hz (E.any (q := []) hu) (by simp; omega) E.mu.lim (fun v2 w2 L2 g2 _ h2 => ?_)
      (refine add_of (by (omega)) (by (omega)) ?_)
      exact hKn 1 _ _ (by decide) ⟨v2, L2, E.grow g2, .inr (.inl ⟨rfl, rfl, h2⟩)⟩
    · (refine lss_of ?_)
      refine condLt_of (fun _ => ?_) (fun h => absurd h (by decide))
      refine ixaS_of (by decide) (by decide) ?_
      refine ld_of ((hb.cells.ext E.toExt).at 1 rfl) ?_
      refine grow_row (by kernel_rfl) hz (E.any (q := []) hv) (by omega) E.mu.lim (fun v2 w2 L2 g2 _ h2 => ?_)
      (refine add_of (by (omega)) (by (omega)) ?_)
      exact hKn 0 _ _ (by decide) ⟨v2, L2, E.grow g2, .inr (.inr ⟨rfl, rfl, h2⟩)⟩
    · (refine lss_of ?_)
      refine condLt_of (fun h => absurd h (by decide)) (fun _ => ?_)
      intro _
      exact hR _ _ E.toExt hz.any
end
section
variable {w : World} {m : Mc} {up uo ut us : Value} {R : VW}
def refB (n : Int) (v : V) : Bool := decide (v.1 = 2) && !inB v.2 0 (n - 1)
theorem refB_no {n : Int} {l : List V} (h : ∀ v ∈ l, v.1 = 2 → 0 ≤ v.2 ∧ v.2 < n) : l.any (refB n) = false := by
  rw [List.any_eq_false]
  intro v hv
  unfold refB
  by_cases h2 : v.1 = 2
  · have := h v hv h2
    rw [inB_t this.1 (by omega)]; simp
  · rw [decide_eq_false h2]; simp
theorem c_valsThere {xs ys : List V} {b : Nat} {u v : Value} (V : MachV w m up uo ut us) (B : MB m) (hu : Sl kPair Any w [] xs u) (hv : Sl kPair Any w [] ys v) (hx : xs.length ≤ 4194304) (hy : ys.length ≤ 4194304) (hb : Blk w b [u, v])
    (hr : ∀ x ∈ xs ++ ys, x.1 = 2 → 0 ≤ x.2 ∧ x.2 < m.twins.length)
    (hR : ∀ w', Ext w w' → R (.bool true) w') : clT PR 185 [.agg (machCells m up uo ut us).toArray, .slice (some ⟨b, 0, none⟩) 2 2] w R := by
  refine Fimpl_Mach_valsThere.cl ?_
  unfold Fimpl_Mach_valsThere
  have hBt := B.nt.1
  have E := En.start w
  refine E.box (fun b1 w1 E e1 => ?_)
  refine c_concat2 (hu.ext e1) (hv.ext e1) hx hy (hb.ext e1) (fun w2 z e2 hz => ?_)
  replace E := E.ext e2
  have k2 : Blk w2 b1 (machCells m up uo ut us) := E.blk (.head _)
  refine c_containsV (f := refB m.twins.length) hz (by rw [List.length_append]; omega) ?_ (fun w3 e3 => ?_)
  · intro x w4 R' e4 hR'
    refine clv_of (by kernel_rfl) rfl ?_
    refine Fimpl_Mach_valsThere_1.cl ?_
    unfold Fimpl_Mach_valsThere_1
    refine box_of' (fun b5 w5 e5 hb5 k5 => ?_)
    replace k5 : Blk w5 b5 [.int .i64 x.1, .int .i64 x.2] := k5
    (refine fad_of ?_)
    refine ld_of (k5.cell rfl) ?_
    (refine eql_of ?_)
    refine condP_of (fun h => ?_) (fun h => ?_)
    · (refine fad_of ?_)
      refine ld_of (k5.cell rfl) ?_
      (refine fad_of ?_)
      refine ld_of (((k2.ext e4).ext e5).cell rfl) ?_
      refine V.twins.len_of ?_
      (refine sub_of (by (omega)) (by (omega)) ?_)
      refine c_implIn ?_
      (refine not_of ?_)
      have : (!inB x.2 0 ((m.twins.length : Int) - 1)) = refB m.twins.length x := by unfold refB; rw [decide_eq_true h]; rfl
      rw [this]
      exact hR' _ e5
    · have : false = refB m.twins.length x := by unfold refB; rw [decide_eq_false h]; rfl
      rw [this]
      exact hR' _ e5
  · rw [refB_no hr]
    (refine not_of ?_)
    exact hR _ (E.toExt.trans e3)
theorem c_there {p : Pg} (M : MOK p m) (V : MachV w m up uo ut us) (B : MB m) (hR : ∀ w', Ext w w' → R (.bool true) w') : clT PR 115 [.agg (machCells m up uo ut us).toArray] w R := by
  refine Fimpl_Mach_there.cl ?_
  unfold Fimpl_Mach_there
  have hBt := B.nt.1
  have hBp := B.np
  have E := En.start w
  refine E.box (fun b1 w1 E _ => ?_)
  (refine fad_of ?_)
  refine E.ld (.head _) rfl ?_
  refine V.twins.len_of ?_
  (refine sub_of (by (omega)) (by (omega)) ?_)
  (refine fad_of ?_)
  refine E.ld (.head _) rfl ?_
  refine V.pages.len_of ?_
  refine loop_of (fun n s wx => ∃ (i : Nat), s = [.pointer (some ⟨b1, 0, none⟩), .bool false, .int .i64 ((m.twins.length : Int) - 1), up, .int .i64 m.pages.length, .int .i64 i] ∧ i + n = m.pages.length ∧ En noL w noL wx [(b1, machCells m up uo ut us)]) ?_ (m := m.pages.length) ⟨0, rfl, by omega, E⟩
  clear E
  rintro n s wx Kn ⟨i, rfl, hi, E⟩ hKn
  intro _
  simp only [List.headD_cons, List.tail_cons]
  have e0 := E.toExt
  (refine lss_of ?_)
  refine condLt_of (fun hlt => ?_) (fun hge => ?_)
  · have P := M.pn i (by omega) hlt
    refine pn_ix V.pages (i := i) (by omega) hlt (fun b o uf hc hf => ?_)
    have hbn := B.nf _ (List.mem_of_getElem? (pn_get (i := (i : Int)) (by omega) hlt))
    replace hc : Cells w b o [.int .i64 (pnAt m i).base, uf] := hc
    replace hf : Sl kFm Any w [] (pnAt m i).frames uf := hf
    refine lds_of (hc.ext e0) rfl ?_
    refine E.als (vs := [.int .i64 (pnAt m i).base, uf]) rfl rfl rfl (by intro x hx; simp at hx; rcases hx with rfl | rfl; rfl; exact hf.one) (fun b5 w5 E _ => ?_)
    (refine fad_of ?_)
    refine E.ld (.head _) rfl ?_
    refine c_implIn ?_
    (refine not_of ?_)
    refine condNIn_of (fun h => absurd ⟨P.b0, by have := P.b1; omega⟩ h) (fun _ => ?_)
    (refine fad_of ?_)
    refine E.ld (.head _) rfl ?_
    refine hf.len_of ?_
    refine loop_of (fun n s wy => ∃ (k : Nat), s = [.pointer (some ⟨b1, 0, none⟩), .bool false, .int .i64 ((m.twins.length : Int) - 1), up, .int .i64 m.pages.length, .int .i64 i, uf, .int .i64 (pnAt m i).frames.length, .int .i64 k] ∧ k + n = (pnAt m i).frames.length ∧ En noL w noL wy [(b1, machCells m up uo ut us)]) ?_ (m := (pnAt m i).frames.length) ⟨0, rfl, by omega, E.pop⟩
    clear E
    rintro n' s wy Ko ⟨k, rfl, hk, E⟩ hKo
    intro _
    simp only [List.headD_cons, List.tail_cons]
    (refine lss_of ?_)
    refine condLt_of (fun hlt2 => ?_) (fun hge2 => ?_)
    · have F := P.form k (by omega) (by unfold nF; omega)
      have hy : (pnAt m i).frames[k]? = some (fmAt m i k) := by have := fm_get (fs := (pnAt m i).frames) (k := (k : Int)) (by omega) (by omega); rwa [Int.toNat_natCast] at this
      have hbf := hbn.2 _ (List.mem_of_getElem? hy)
      refine fm_ix hf (i := k) (by omega) hlt2 (fun b o u2 v2 hc hu hv => ?_)
      replace hc : Cells w b o (cellsF (fmAt m i k) u2 v2) := hc
      replace hu : Sl kPair Any w [] (fmAt m i k).temps u2 := hu
      replace hv : Sl kPair Any w [] (fmAt m i k).stack v2 := hv
      refine lds_of (hc.ext E.toExt) rfl ?_
      refine E.als (vs := cellsF (fmAt m i k) u2 v2) rfl rfl rfl (cellsF_one hu.one hv.one) (fun b6 w6 E _ => ?_)
      (refine fad_of ?_)
      refine E.ld (.head _) rfl ?_
      refine c_implIn ?_
      (refine not_of ?_)
      refine condNIn_of (fun h => absurd ⟨F.2.1, by have := F.2.2; omega⟩ h) (fun _ => ?_)
      refine E.lds (.tail _ (.head _)) rfl ?_
      (refine fad_of ?_)
      refine E.ld (.head _) rfl ?_
      (refine fad_of ?_)
      refine E.ld (.head _) rfl ?_
      obtain ⟨A1, n1, c1, rfl⟩ := hu.sl
      obtain ⟨A2, n2, c2, rfl⟩ := hv.sl
      refine E.bsl rfl rfl rfl (fun b7 w7 E _ => ?_)
      have e7 := E.toExt
      refine c_valsThere (xs := (fmAt m i k).temps) (ys := (fmAt m i k).stack) (V.ext e7) B (hu.ext e7) (hv.ext e7) (by omega) (by omega) (E.blk (.head _)) (fun x hx h2 => ?_) (fun w8 e8 => ?_)
      · rcases List.mem_append.mp hx with hx | hx
        · exact valOk_call (F.1.tv x hx) h2
        · exact valOk_call (F.1.sv x hx) h2
      replace E := E.ext e8
      (refine not_of ?_)
      refine condN_of (fun h => nomatch h) (fun _ => ?_)
      (refine add_of (by (omega)) (by (omega)) ?_)
      exact hKo (n' - 1) _ _ (by omega) ⟨k + 1, rfl, by omega, E.pop.pop⟩
    · intro _
      (refine add_of (by (omega)) (by (omega)) ?_)
      exact hKn (n - 1) _ _ (by omega) ⟨i + 1, rfl, by omega, E⟩
  · intro _
    (refine fad_of ?_)
    refine E.ld (.head _) rfl ?_
    refine V.twins.len_of ?_
    refine loop_of (fun n s wy => ∃ (k : Nat), s = [.pointer (some ⟨b1, 0, none⟩), .bool false, .int .i64 ((m.twins.length : Int) - 1), ut, .int .i64 m.twins.length, .int .i64 k] ∧ k + n = m.twins.length ∧ En noL w noL wy [(b1, machCells m up uo ut us)]) ?_ (m := m.twins.length) ⟨0, rfl, by omega, E⟩
    clear E
    rintro n' s wy Ko ⟨k, rfl, hk, E⟩ hKo
    intro _
    simp only [List.headD_cons, List.tail_cons]
    (refine lss_of ?_)
    refine condLt_of (fun hlt2 => ?_) (fun hge2 => ?_)
    · have T := M.tw k (by omega) hlt2
      have hy : m.twins[k]? = some (twAt m k) := by unfold twAt; rw [Int.toNat_natCast, List.getD_eq_getElem?_getD, List.getElem?_eq_getElem (by omega)]; rfl
      have hbf := B.nt.2 _ (List.mem_of_getElem? hy)
      have hsd : -1 ≤ (twAt m k).left.sender ∧ (twAt m k).left.sender < m.twins.length ∧ ∀ x ∈ (twAt m k).left.temps ++ (twAt m k).left.stack, x.1 = 2 → 0 ≤ x.2 ∧ x.2 < m.twins.length := by
        rcases Int.lt_or_le (twAt m k).page 0 with h | h
        · have F := (T.off h).2.2
          refine ⟨F.s0, F.s1, fun x hx h2 => ?_⟩
          rcases List.mem_append.mp hx with hx | hx
          · exact valOk_call (F.tv x hx) h2
          · exact valOk_call (F.sv x hx) h2
        · rw [(T.on h).2.2.2.2]
          refine ⟨by decide, by show (0 : Int) < _; omega, fun x hx => ?_⟩
          cases hx
      have hok : (plcOf m k).2.2 = true := by rw [plc_tw M.wf (by omega) hlt2]
      refine tw_ix V.twins (i := k) (by omega) hlt2 (fun b o u2 v2 hc hu hv => ?_)
      replace hc : Cells w b o (cellsT (twAt m k) u2 v2) := hc
      replace hu : Sl kPair Any w [] (twAt m k).left.temps u2 := hu
      replace hv : Sl kPair Any w [] (twAt m k).left.stack v2 := hv
      refine lds_of (hc.ext E.toExt) rfl ?_
      refine E.als (vs := cellsT (twAt m k) u2 v2) rfl rfl rfl (cellsT_one hu.one hv.one) (fun b6 w6 E _ => ?_)
      refine E.lds (.tail _ (.head _)) rfl ?_
      refine c_placeOf (V.ext E.toExt) B (fun w7 e7 => ?_)
      replace E := E.ext e7
      refine ext_of rfl ?_
      refine ext_of rfl ?_
      refine E.als (vs := [.int .i64 (plcOf m k).1, .int .i64 (plcOf m k).2.1]) rfl rfl rfl (by simp [Value.oneCell']) (fun b8 w8 E _ => ?_)
      rw [hok]
      (refine not_of ?_)
      refine condN_of (fun h => nomatch h) (fun _ => ?_)
      (refine fad_of ?_)
      (refine fad_of ?_)
      refine E.ld (.tail _ (.head _)) rfl ?_
      refine c_implIn ?_
      (refine not_of ?_)
      refine condNIn_of (fun h => absurd ⟨hsd.1, by omega⟩ h) (fun _ => ?_)
      refine E.lds (.tail _ (.tail _ (.head _))) rfl ?_
      (refine fad_of ?_)
      (refine fad_of ?_)
      refine E.ld (.tail _ (.head _)) rfl ?_
      (refine fad_of ?_)
      (refine fad_of ?_)
      refine E.ld (.tail _ (.head _)) rfl ?_
      obtain ⟨A1, n1, c1, rfl⟩ := hu.sl
      obtain ⟨A2, n2, c2, rfl⟩ := hv.sl
      refine E.bsl rfl rfl rfl (fun b9 w9 E _ => ?_)
      have e9 := E.toExt
      refine c_valsThere (xs := (twAt m k).left.temps) (ys := (twAt m k).left.stack) (V.ext e9) B (hu.ext e9) (hv.ext e9) (by omega) (by omega) (E.blk (.head _)) hsd.2.2 (fun w10 e10 => ?_)
      replace E := E.ext e10
      (refine not_of ?_)
      refine condN_of (fun h => nomatch h) (fun _ => ?_)
      (refine add_of (by (omega)) (by (omega)) ?_)
      exact hKo (n' - 1) _ _ (by omega) ⟨k + 1, rfl, by omega, E.pop.pop.pop⟩
    · intro _
      exact hR _ E.toExt
end
end Go.PT
namespace Go.PT
open Go.MapKept
def entsF : Nat → List Int → List MapEntry
  | _, [] => []
  | i, n :: l => ⟨.int .i64 n, .int .i64 i, i⟩ :: entsF (i + 1) l
def MapB (w : World) (b : Nat) (os : List Int) : Prop := w.heap[b]? = some (.map (entsF 0 os).toArray os.length)
def mapB (P : Program) (t : Nat) : Bool :=
  match P.underlying t with
  | some (.map k e) => (match P.underlying k with | some (.int .i64) => true | _ => false) && (match P.info? e with | some i => (match i.zero with | some (.int .i64 0) => true | _ => false) | none => false)
  | _ => false
theorem mapB_of {P : Program} {t : Nat} (h : mapB P t = true) : ∃ k e i, P.underlying t = some (.map k e) ∧ P.underlying k = some (.int .i64) ∧ P.info? e = some i ∧ i.zero = some (.int .i64 0) := by
  unfold mapB at h
  split at h
  · rename_i k e he
    rw [Bool.and_eq_true] at h
    obtain ⟨h1, h2⟩ := h
    split at h1
    · rename_i hk
      split at h2
      · rename_i i hi
        split at h2
        · rename_i hz
          exact ⟨k, e, i, he, hk, hi, hz⟩
        · cases h2
      · cases h2
    · cases h1
  · cases h
theorem run_zeroV {P : Program} {e : Nat} {i : TypeInfo} {z : Value} (hi : P.info? e = some i) (hz : i.zero = some z) (w : World) : (zeroValue e).run P w = .ok z w := by
  simp [zeroValue, typeInfo, hi, hz, Result.andThen]
theorem entsF_app : ∀ (os : List Int) (i : Nat) (n : Int), entsF i (os ++ [n]) = entsF i os ++ [⟨.int .i64 n, .int .i64 (i + os.length : Nat), i + os.length⟩]
  | [], i, n => by simp [entsF]
  | m :: l, i, n => by
    simp only [List.cons_append, entsF, entsF_app l, List.length_cons]
    rw [show i + 1 + l.length = i + (l.length + 1) by omega]
theorem findNow_ents (n : Int) : ∀ (os : List Int) (i j : Nat), Instr.findNow (.int .i64) (.int .i64 n) (entsF i os) j = some (if n ∈ os then some (j + os.idxOf n, .int .i64 (i + os.idxOf n : Nat)) else none)
  | [], i, j => rfl
  | m :: l, i, j => by
    unfold entsF Instr.findNow
    by_cases e : n = m
    · subst e
      simp [Instr.sameNow]
    · have h1 : Instr.sameNow (.int .i64) (.int .i64 n) (.int .i64 m) = some false := by simp [Instr.sameNow, e]
      simp only [h1]
      rw [findNow_ents n l (i + 1) (j + 1)]
      have e2 : (m == n) = false := by simp; exact fun h => e h.symm
      by_cases hl : n ∈ l
      · rw [if_pos hl, if_pos (.tail _ hl), List.idxOf_cons, e2]
        simp only [cond_false]
        congr 2
        · congr 1
          · omega
          · congr 1; omega
      · rw [if_neg hl, if_neg (by intro h; rcases List.mem_cons.mp h with h | h; exact e h; exact hl h)]
theorem mkm_of {P : Program} {t : Nat} {w : World} {k : VW} (hk : ∀ b w', Ext w w' → w.heap.size ≤ b → MapB w' b [] → k (.map (some b)) w') : opT P (Instr.makeMap t none) w k := by
  have e : (Instr.makeMap t none).run P w = .ok (.map (some w.heap.size)) (w.alloc (.map #[] 0)) := rfl
  unfold opT
  simp only [e]
  exact hk _ _ ((Fr.refl _ _).alloc _) (Nat.le_refl _) (MapKept.heap_alloc w _).1
theorem look_of {P : Program} {t : Nat} {w : World} {b : Nat} {os : List Int} {n : Int} {k : VW} (ht : mapB P t = true) (hb : MapB w b os)
    (hk : k (.tuple #[.int .i64 (if n ∈ os then (os.idxOf n : Int) else 0), .bool (decide (n ∈ os))]) w) : opT P (Instr.lookup t (.map (some b)) (.int .i64 n) true) w k := by
  obtain ⟨kt, et, i, h1, h2, h3, h4⟩ := mapB_of ht
  have hb : w.heap[b]? = some (.map (entsF 0 os).toArray os.length) := hb
  have hf := findNow_ents n os 0 0
  have hck : ∀ e, (Instr.checkKey e 10000 kt (.int .i64 n)).run P w = .ok () w := fun e => run_checkKey h2 (show IsKey (.int .i64) (.int .i64 n) from rfl) e _
  have e : (Instr.lookup t (.map (some b)) (.int .i64 n) true).run P w = .ok (.tuple #[.int .i64 (if n ∈ os then (os.idxOf n : Int) else 0), .bool (decide (n ∈ os))]) w := by
    by_cases hn : n ∈ os
    · rw [if_pos hn] at hf
      simp [Instr.lookup, run_underlying h1, MapKept.run_getObj_map hb, hck, run_findKey h2 hf, Result.andThen, hn]
    · rw [if_neg hn] at hf
      simp [Instr.lookup, run_underlying h1, MapKept.run_getObj_map hb, hck, run_findKey h2 hf, run_zeroV h3 h4, Result.andThen, hn]
  unfold opT
  simp only [e]
  exact hk
theorem upd_of {P : Program} {t : Nat} {w : World} {b : Nat} {os : List Int} {n : Int} {k : World → Prop} (ht : mapB P t = true) (hb : MapB w b os) (hn : n ∉ os)
    (hk : ∀ w', Fr (fun x => x = b) w w' → MapB w' b (os ++ [n]) → k w') : opU P (Instr.mapUpdate t (.map (some b)) (.int .i64 n) (.int .i64 os.length)) w k := by
  obtain ⟨kt, et, i, h1, h2, h3, h4⟩ := mapB_of ht
  have hb : w.heap[b]? = some (.map (entsF 0 os).toArray os.length) := hb
  have hf := findNow_ents n os 0 0
  rw [if_neg hn] at hf
  have hck : ∀ e, (Instr.checkKey e 10000 kt (.int .i64 n)).run P w = .ok () w := fun e => run_checkKey h2 (show IsKey (.int .i64) (.int .i64 n) from rfl) e _
  have e : (Instr.mapUpdate t (.map (some b)) (.int .i64 n) (.int .i64 os.length)).run P w = .ok () { w with heap := w.heap.setIfInBounds b (.map ((entsF 0 os).toArray.push ⟨.int .i64 n, .int .i64 os.length, os.length⟩) (os.length + 1)) } := by
    simp [Instr.mapUpdate, run_underlying h1, MapKept.run_getObj_map hb, hck, run_findKey h2 hf, MapKept.run_setObj_map _ hb, Result.andThen]
  unfold opU
  simp only [e]
  refine hk _ ⟨rfl, rfl, rfl, by simp, fun x _ hx => (heap_set hb).2 x hx⟩ ?_
  show _ = _
  rw [(heap_set hb).1, entsF_app]
  simp
theorem MapB.keep {S : Nat → Prop} {w w' : World} {b : Nat} {os : List Int} (h : MapB w b os) (e : Fr S w w') (hb : ¬ S b) : MapB w' b os := by
  have hlt : b < w.heap.size := (Array.getElem?_eq_some_iff.mp h).1
  exact (e.keep b hlt hb).trans h
theorem MapB.lt {w : World} {b : Nat} {os : List Int} (h : MapB w b os) : b < w.heap.size := (Array.getElem?_eq_some_iff.mp h).1
end Go.PT
namespace Go.PT
open Go.MapKept
def pv (n : V) : Value := .agg #[.int .i64 n.1, .int .i64 n.2]
def entsP : Nat → List V → List MapEntry
  | _, [] => []
  | i, n :: l => ⟨pv n, .int .i64 i, i⟩ :: entsP (i + 1) l
def MapP (w : World) (b : Nat) (os : List V) : Prop := w.heap[b]? = some (.map (entsP 0 os).toArray os.length)
def mapPB (P : Program) (t : Nat) : Bool :=
  match P.underlying t with
  | some (.map k e) => pairB P k && (match P.info? e with | some i => (match i.zero with | some (.int .i64 0) => true | _ => false) | none => false)
  | _ => false
theorem mapPB_of {P : Program} {t : Nat} (h : mapPB P t = true) : ∃ k e i, P.underlying t = some (.map k e) ∧ pairB P k = true ∧ P.info? e = some i ∧ i.zero = some (.int .i64 0) := by
  unfold mapPB at h
  split at h
  · rename_i k e he
    rw [Bool.and_eq_true] at h
    obtain ⟨h1, h2⟩ := h
    split at h2
    · rename_i i hi
      split at h2
      · rename_i hz
        exact ⟨k, e, i, he, h1, hi, hz⟩
      · cases h2
    · cases h2
  · cases h
theorem pairB_fs {P : Program} {t : Nat} (h : pairB P t = true) : ∃ f g, P.underlying t = some (.struct #[f, g]) ∧ f.offset = 0 ∧ g.offset = 1 ∧ f.name ≠ "_" ∧ g.name ≠ "_" ∧ i64B P f.type = true ∧ i64B P g.type = true := by
  unfold pairB at h
  rw [Bool.and_eq_true, Bool.and_eq_true] at h
  obtain ⟨⟨h1, h2⟩, h3⟩ := h
  split at h1
  · rename_i fs hfs
    split at h1
    · rename_i f g hfg
      simp only [Bool.and_eq_true, beq_iff_eq, bne_iff_ne, ne_eq] at h1
      obtain ⟨⟨⟨⟨⟨o1, o2⟩, n1⟩, n2⟩, u1⟩, u2⟩ := h1
      have e : fs = #[f, g] := Array.ext' hfg
      exact ⟨f, g, by rw [hfs, e], o1, o2, n1, n2, u1, u2⟩
    · cases h1
  · cases h1
theorem run_checkI {P : Program} {t n : Nat} (h : i64B P t = true) (e : Bool) (a : Int) (w : World) : (Instr.checkKey e (n + 1) t (.int .i64 a)).run P w = .ok () w :=
  run_checkKey (i64B_of h) (show IsKey (.int .i64) (.int .i64 a) from rfl) e n
theorem run_checkPair {P : Program} {t n : Nat} (h : pairB P t = true) (e : Bool) (v : V) (w : World) : (Instr.checkKey e (n + 2) t (pv v)).run P w = .ok () w := by
  obtain ⟨f, g, hu, o1, o2, n1, n2, u1, u2⟩ := pairB_fs h
  have q1 : (part f.type #[.int .i64 v.1, .int .i64 v.2] 0).run P w = .ok (.int .i64 v.1) w := part_i64 (i64B_of u1) rfl
  have q2 : (part g.type #[.int .i64 v.1, .int .i64 v.2] 1).run P w = .ok (.int .i64 v.2) w := part_i64 (i64B_of u2) rfl
  have c1 := run_checkI (n := n) u1 e v.1 w
  have c2 := run_checkI (n := n) u2 e v.2 w
  unfold Instr.checkKey pv
  simp [run_underlying hu, n1, n2, o1, o2, q1, q2, c1, c2, Result.andThen]
theorem entsP_app : ∀ (os : List V) (i : Nat) (n : V), entsP i (os ++ [n]) = entsP i os ++ [⟨pv n, .int .i64 (i + os.length : Nat), i + os.length⟩]
  | [], i, n => by simp [entsP]
  | m :: l, i, n => by
    simp only [List.cons_append, entsP, entsP_app l, List.length_cons]
    rw [show i + 1 + l.length = i + (l.length + 1) by omega]
theorem run_asking {P : Program} {t : Nat} (h : pairB P t = true) (n : V) (w : World) : ∀ (os : List V) (i j : Nat), (Instr.findAsking t (pv n) (entsP i os) j).run P w = .ok (if n ∈ os then some (j + os.idxOf n, .int .i64 (i + os.idxOf n : Nat)) else none) w
  | [], i, j => rfl
  | m :: l, i, j => by
    have he : (Op.equal t (pv n) (pv m)).run P w = .ok (decide (n = m)) w := run_pairEq h n.1 n.2 m.1 m.2 w
    unfold entsP Instr.findAsking
    by_cases e : n = m
    · subst e
      simp [he]
    · have e2 : (m == n) = false := by simp; exact fun h => e h.symm
      simp only [Sem.run_bind, he, Result.andThen_ok, decide_eq_false e]
      simp only [Bool.false_eq_true, if_false]
      rw [run_asking h n w l (i + 1) (j + 1)]
      by_cases hl : n ∈ l
      · rw [if_pos hl, if_pos (.tail _ hl), List.idxOf_cons, e2]
        simp only [cond_false]
        congr 2
        congr 1
        · omega
        · congr 1; omega
      · rw [if_neg hl, if_neg (by intro h; rcases List.mem_cons.mp h with h | h; exact e h; exact hl h)]
theorem run_findPair {P : Program} {t : Nat} (h : pairB P t = true) (n : V) (w : World) (os : List V) : (Instr.findKey t (pv n) (entsP 0 os)).run P w = .ok (if n ∈ os then some (os.idxOf n, .int .i64 (os.idxOf n : Nat)) else none) w := by
  obtain ⟨f, g, hu, _⟩ := pairB_fs h
  have ha := run_asking h n w os 0 0
  simp only [Nat.zero_add] at ha
  cases os with
  | nil => simp [Instr.findKey, run_underlying hu, Result.andThen, entsP, Instr.findNow]
  | cons m l =>
    have hn : Instr.findNow (.struct #[f, g]) (pv n) (entsP 0 (m :: l)) 0 = none := rfl
    simp only [Instr.findKey, Sem.run_bind, run_underlying hu, Result.andThen_ok, hn]
    exact ha
theorem mkp_of {P : Program} {t : Nat} {w : World} {k : VW} (hk : ∀ b w', Ext w w' → w.heap.size ≤ b → MapP w' b [] → k (.map (some b)) w') : opT P (Instr.makeMap t none) w k :=
  mkm_of (fun b w' e hb m => hk b w' e hb m)
theorem lookP_of {P : Program} {t : Nat} {w : World} {b : Nat} {os : List V} {n : V} {k : VW} (ht : mapPB P t = true) (hb : MapP w b os)
    (hk : k (.tuple #[.int .i64 (if n ∈ os then (os.idxOf n : Int) else 0), .bool (decide (n ∈ os))]) w) : opT P (Instr.lookup t (.map (some b)) (.agg #[.int .i64 n.1, .int .i64 n.2]) true) w k := by
  obtain ⟨kt, et, i, h1, h2, h3, h4⟩ := mapPB_of ht
  have hb : w.heap[b]? = some (.map (entsP 0 os).toArray os.length) := hb
  have hf := run_findPair h2 n w os
  have hck : ∀ e, (Instr.checkKey e 10000 kt (pv n)).run P w = .ok () w := fun e => run_checkPair h2 e n w
  have e : (Instr.lookup t (.map (some b)) (pv n) true).run P w = .ok (.tuple #[.int .i64 (if n ∈ os then (os.idxOf n : Int) else 0), .bool (decide (n ∈ os))]) w := by
    by_cases hn : n ∈ os
    · rw [if_pos hn] at hf
      simp [Instr.lookup, run_underlying h1, MapKept.run_getObj_map hb, hck, hf, Result.andThen, hn]
    · rw [if_neg hn] at hf
      simp [Instr.lookup, run_underlying h1, MapKept.run_getObj_map hb, hck, hf, run_zeroV h3 h4, Result.andThen, hn]
  unfold opT
  have e : (Instr.lookup t (.map (some b)) (.agg #[.int .i64 n.1, .int .i64 n.2]) true).run P w = _ := e
  simp only [e]
  exact hk
theorem updP_of {P : Program} {t : Nat} {w : World} {b : Nat} {os : List V} {n : V} {k : World → Prop} (ht : mapPB P t = true) (hb : MapP w b os) (hn : n ∉ os)
    (hk : ∀ w', Fr (fun x => x = b) w w' → MapP w' b (os ++ [n]) → k w') : opU P (Instr.mapUpdate t (.map (some b)) (.agg #[.int .i64 n.1, .int .i64 n.2]) (.int .i64 os.length)) w k := by
  obtain ⟨kt, et, i, h1, h2, h3, h4⟩ := mapPB_of ht
  have hb : w.heap[b]? = some (.map (entsP 0 os).toArray os.length) := hb
  have hf := run_findPair h2 n w os
  rw [if_neg hn] at hf
  have hck : ∀ e, (Instr.checkKey e 10000 kt (pv n)).run P w = .ok () w := fun e => run_checkPair h2 e n w
  have e : (Instr.mapUpdate t (.map (some b)) (pv n) (.int .i64 os.length)).run P w = .ok () { w with heap := w.heap.setIfInBounds b (.map ((entsP 0 os).toArray.push ⟨pv n, .int .i64 os.length, os.length⟩) (os.length + 1)) } := by
    simp [Instr.mapUpdate, run_underlying h1, MapKept.run_getObj_map hb, hck, hf, MapKept.run_setObj_map _ hb, Result.andThen]
  unfold opU
  have e : (Instr.mapUpdate t (.map (some b)) (.agg #[.int .i64 n.1, .int .i64 n.2]) (.int .i64 os.length)).run P w = _ := e
  simp only [e]
  refine hk _ ⟨rfl, rfl, rfl, by simp, fun x _ hx => (heap_set hb).2 x hx⟩ ?_
  show _ = _
  rw [(heap_set hb).1, entsP_app]
  simp
theorem MapP.keep {S : Nat → Prop} {w w' : World} {b : Nat} {os : List V} (h : MapP w b os) (e : Fr S w w') (hb : ¬ S b) : MapP w' b os := by
  have hlt : b < w.heap.size := (Array.getElem?_eq_some_iff.mp h).1
  exact (e.keep b hlt hb).trans h
theorem MapP.lt {w : World} {b : Nat} {os : List V} (h : MapP w b os) : b < w.heap.size := (Array.getElem?_eq_some_iff.mp h).1
end Go.PT
namespace Go.PT
open Go.Proofs
def Fimpl_HeapView.l3 (x1 x2 x4 x5 x6 x7 x8 x10 x54 x55 x56 x60 x61 x62 : Value) (w : World) (Kn Kb Kr : LW) : Prop := ∀ _ : Env,
  binT .lss x62 x61 fun t63 =>
  condT t63
  (ixaT 2 x60 x62 fun t65 =>
  ldsT 2 t65 w fun t66 =>
  allocT 127 #[(.int .i64 0), (.int .i64 0)] w fun t12 w21 =>
  stsT 2 t12 t66 w21 fun w22 =>
  fadT 0 t12 fun t67 =>
  ldT t67 w22 fun t68 =>
  binT .eql t68 (.int .i64 2) fun t69 =>
  condT t69
  (fadT 1 t12 fun t73 =>
  ldT t73 w22 fun t74 =>
  clvT PR CX x5 [t74] w22 fun t75 w23 =>
  ixaT 2 x10 x62 fun t76 =>
  fadT 1 t76 fun t77 =>
  stT t77 t75 w23 fun w24 =>
  binT .add x62 (.int .i64 1) fun t78 =>
  Kn [x1, x2, x4, x5, x6, x7, x8, x10, x54, x55, x56, x60, x61, t78] w24)
  (binT .add x62 (.int .i64 1) fun t78 =>
  Kn [x1, x2, x4, x5, x6, x7, x8, x10, x54, x55, x56, x60, x61, t78] w22))
  (Kb [x1, x2, x4, x5, x6, x7, x8, x10, x54, x55, x56, x60, x61, x62] w)
def Fimpl_HeapView.k4 (x1 x2 x4 x5 x6 x7 x8 x10 x54 x55 x56 x60 x61 x62 : Value) (w : World) (Kn Kb Kr : LW) : Prop := ∀ _ : Env,
  binT .add x56 (.int .i64 1) fun t79 =>
  Kn [x1, x2, x4, x5, x6, x7, x8, x54, x55, t79] w
def Fimpl_HeapView.r5 (x1 x2 x4 x5 x6 x7 x8 x10 x54 x55 x56 x60 x61 x62 : Value) (w : World) (Kn Kb Kr : LW) : Prop := ∀ _ : Env,
  Kr [x1, x2, x4, x5, x6, x7, x8, x54, x55, x56] w
def Fimpl_HeapView.l2 (x1 x2 x4 x5 x6 x7 x8 x54 x55 x56 : Value) (w : World) (Kn Kb Kr : LW) : Prop := ∀ _ : Env,
  binT .lss x56 x55 fun t57 =>
  condT t57
  (ixaT 1 x54 x56 fun t58 =>
  ldT t58 w fun t59 =>
  lenT t59 fun t61 =>
  loopT (fun s w Kn Kb Kr => Fimpl_HeapView.l3 (s.headD undef) (s.tail.headD undef) (s.tail.tail.headD undef) (s.tail.tail.tail.headD undef) (s.tail.tail.tail.tail.headD undef) (s.tail.tail.tail.tail.tail.headD undef) (s.tail.tail.tail.tail.tail.tail.headD undef) (s.tail.tail.tail.tail.tail.tail.tail.headD undef) (s.tail.tail.tail.tail.tail.tail.tail.tail.headD undef) (s.tail.tail.tail.tail.tail.tail.tail.tail.tail.headD undef) (s.tail.tail.tail.tail.tail.tail.tail.tail.tail.tail.headD undef) (s.tail.tail.tail.tail.tail.tail.tail.tail.tail.tail.tail.headD undef) (s.tail.tail.tail.tail.tail.tail.tail.tail.tail.tail.tail.tail.headD undef) (s.tail.tail.tail.tail.tail.tail.tail.tail.tail.tail.tail.tail.tail.headD undef) w Kn Kb Kr) [x1, x2, x4, x5, x6, x7, x8, t59, x54, x55, x56, t59, t61, (.int .i64 0)] w
  (fun s w => Fimpl_HeapView.k4 (s.headD undef) (s.tail.headD undef) (s.tail.tail.headD undef) (s.tail.tail.tail.headD undef) (s.tail.tail.tail.tail.headD undef) (s.tail.tail.tail.tail.tail.headD undef) (s.tail.tail.tail.tail.tail.tail.headD undef) (s.tail.tail.tail.tail.tail.tail.tail.headD undef) (s.tail.tail.tail.tail.tail.tail.tail.tail.headD undef) (s.tail.tail.tail.tail.tail.tail.tail.tail.tail.headD undef) (s.tail.tail.tail.tail.tail.tail.tail.tail.tail.tail.headD undef) (s.tail.tail.tail.tail.tail.tail.tail.tail.tail.tail.tail.headD undef) (s.tail.tail.tail.tail.tail.tail.tail.tail.tail.tail.tail.tail.headD undef) (s.tail.tail.tail.tail.tail.tail.tail.tail.tail.tail.tail.tail.tail.headD undef) w Kn Kb Kr)
  (fun s w => Fimpl_HeapView.r5 (s.headD undef) (s.tail.headD undef) (s.tail.tail.headD undef) (s.tail.tail.tail.headD undef) (s.tail.tail.tail.tail.headD undef) (s.tail.tail.tail.tail.tail.headD undef) (s.tail.tail.tail.tail.tail.tail.headD undef) (s.tail.tail.tail.tail.tail.tail.tail.headD undef) (s.tail.tail.tail.tail.tail.tail.tail.tail.headD undef) (s.tail.tail.tail.tail.tail.tail.tail.tail.tail.headD undef) (s.tail.tail.tail.tail.tail.tail.tail.tail.tail.tail.headD undef) (s.tail.tail.tail.tail.tail.tail.tail.tail.tail.tail.tail.headD undef) (s.tail.tail.tail.tail.tail.tail.tail.tail.tail.tail.tail.tail.headD undef) (s.tail.tail.tail.tail.tail.tail.tail.tail.tail.tail.tail.tail.tail.headD undef) w Kn Kb Kr))
  (Kb [x1, x2, x4, x5, x6, x7, x8, x54, x55, x56] w)
def Fimpl_HeapView.k6 (x1 x2 x4 x5 x6 x7 x8 x54 x55 x56 : Value) (w : World) (Kn Kb Kr : LW) : Prop := ∀ _ : Env,
  ldsT 6 x8 w fun t81 =>
  bslT 89 1 6 #[(.int .i64 0), (.int .i64 0), (.slice none 0 0), (.slice none 0 0), (.int .i64 0), (.bool false)] [(0, 6, t81)] w fun t82 w25 =>
  opT PR (Builtin.append_ #[55, 55] 55 #[x6, t82]) w25 fun t83 w26 =>
  binT .add x7 (.int .i64 1) fun t32 =>
  Kn [x1, x2, x4, x5, t83, t32] w26
def Fimpl_HeapView.r7 (x1 x2 x4 x5 x6 x7 x8 x54 x55 x56 : Value) (w : World) (Kn Kb Kr : LW) : Prop := ∀ _ : Env,
  Kr [x1, x2, x4, x5, x6, x7] w
def Fimpl_HeapView.j1 (x1 x2 x4 x5 x6 x7 x8 : Value) (w : World) (Kn Kb Kr : LW) : Prop := ∀ _ : Env,
  fadT 2 x8 fun t50 =>
  ldT t50 w fun t51 =>
  fadT 3 x8 fun t52 =>
  ldT t52 w fun t53 =>
  bslT 35 2 1 #[(.slice none 0 0)] [(0, 1, t51), (1, 1, t53)] w fun t54 w20 =>
  lenT t54 fun t55 =>
  loopT (fun s w Kn Kb Kr => Fimpl_HeapView.l2 (s.headD undef) (s.tail.headD undef) (s.tail.tail.headD undef) (s.tail.tail.tail.headD undef) (s.tail.tail.tail.tail.headD undef) (s.tail.tail.tail.tail.tail.headD undef) (s.tail.tail.tail.tail.tail.tail.headD undef) (s.tail.tail.tail.tail.tail.tail.tail.headD undef) (s.tail.tail.tail.tail.tail.tail.tail.tail.headD undef) (s.tail.tail.tail.tail.tail.tail.tail.tail.tail.headD undef) w Kn Kb Kr) [x1, x2, x4, x5, x6, x7, x8, t54, t55, (.int .i64 0)] w20
  (fun s w => Fimpl_HeapView.k6 (s.headD undef) (s.tail.headD undef) (s.tail.tail.headD undef) (s.tail.tail.tail.headD undef) (s.tail.tail.tail.tail.headD undef) (s.tail.tail.tail.tail.tail.headD undef) (s.tail.tail.tail.tail.tail.tail.headD undef) (s.tail.tail.tail.tail.tail.tail.tail.headD undef) (s.tail.tail.tail.tail.tail.tail.tail.tail.headD undef) (s.tail.tail.tail.tail.tail.tail.tail.tail.tail.headD undef) w Kn Kb Kr)
  (fun s w => Fimpl_HeapView.r7 (s.headD undef) (s.tail.headD undef) (s.tail.tail.headD undef) (s.tail.tail.tail.headD undef) (s.tail.tail.tail.tail.headD undef) (s.tail.tail.tail.tail.tail.headD undef) (s.tail.tail.tail.tail.tail.tail.headD undef) (s.tail.tail.tail.tail.tail.tail.tail.headD undef) (s.tail.tail.tail.tail.tail.tail.tail.tail.headD undef) (s.tail.tail.tail.tail.tail.tail.tail.tail.tail.headD undef) w Kn Kb Kr)
def Fimpl_HeapView.l1 (x1 x2 x4 x5 x6 x7 : Value) (w : World) (Kn Kb Kr : LW) : Prop := ∀ _ : Env,
  ldT x4 w fun t28 =>
  lenT t28 fun t29 =>
  binT .lss x7 t29 fun t30 =>
  condT t30
  (fadT 0 x1 fun t33 =>
  ldT t33 (w.drew) fun t34 =>
  ldT x4 (w.drew) fun t35 =>
  ixaT 1 t35 x7 fun t37 =>
  ldT t37 (w.drew) fun t38 =>
  ixaT 6 t34 t38 fun t39 =>
  ldsT 6 t39 (w.drew) fun t40 =>
  arT [(89, #[(.int .i64 0), (.int .i64 0), (.slice none 0 0), (.slice none 0 0), (.int .i64 0), (.bool false)])] (w.drew) [none] fun w8 s9 =>
  clT PR 99 [t40] w8 fun t41 w10 =>
  arT [(89, #[(.int .i64 0), (.int .i64 0), (.slice none 0 0), (.slice none 0 0), (.int .i64 0), (.bool false)])] w10 s9 fun w11 s12 =>
  ndT s12 0 fun b13 =>
  stsT 6 (.pointer (some ⟨b13, 0, none⟩)) t41 w11 fun w14 =>
  arT [(89, #[(.int .i64 0), (.int .i64 0), (.slice none 0 0), (.slice none 0 0), (.int .i64 0), (.bool false)])] w14 s12 fun w15 s16 =>
  ndT s16 0 fun b17 =>
  fadT 4 (.pointer (some ⟨b17, 0, none⟩)) fun t42 =>
  ldT t42 w15 fun t43 =>
  binT .geq t43 (.int .i64 0) fun t44 =>
  condT t44
  (fadT 4 (.pointer (some ⟨b17, 0, none⟩)) fun t46 =>
  ldT t46 w15 fun t47 =>
  clvT PR CX x5 [t47] w15 fun t48 w18 =>
  fadT 4 (.pointer (some ⟨b17, 0, none⟩)) fun t49 =>
  stT t49 t48 w18 fun w19 =>
  Fimpl_HeapView.j1 x1 x2 x4 x5 x6 x7 (.pointer (some ⟨b17, 0, none⟩)) w19 Kn Kb Kr)
  (Fimpl_HeapView.j1 x1 x2 x4 x5 x6 x7 (.pointer (some ⟨b17, 0, none⟩)) w15 Kn Kb Kr))
  (Kb [x1, x2, x4, x5, x6, x7] w)
def Fimpl_HeapView.k8 (x1 x2 x4 x5 x6 x7 : Value) (w : World) (R : VW) : Prop := ∀ _ : Env,
  R x6 w
def Fimpl_HeapView.r9 (x1 x2 x4 x5 x6 x7 : Value) (w : World) (R : VW) : Prop := ∀ _ : Env,
  R x2 w
def Fimpl_HeapView (t0 : Value) (w : World) (R : VW) : Prop :=
  boxT 57 t0 w fun t1 w1 =>
  fadT 1 t1 fun t13 =>
  ldT t13 w1 fun t14 =>
  fadT 0 t1 fun t15 =>
  ldT t15 w1 fun t16 =>
  lenT t16 fun t17 =>
  binT .sub t17 (.int .i64 1) fun t18 =>
  clT PR 121 [t14, (.int .i64 0), t18] w1 fun t19 w2 =>
  notT t19 fun t20 =>
  condT t20
  (R (.slice none 0 0) w2)
  (opT PR (Instr.makeMap 155 none) w2 fun t21 w3 =>
  allocT 155 #[(.map none)] w3 fun t3 w4 =>
  stT t3 t21 w4 fun w5 =>
  allocT 26 #[(.slice none 0 0)] w5 fun t4 w6 =>
  fadT 1 t1 fun t24 =>
  ldT t24 w6 fun t25 =>
  clvT PR CX (.func (.func 122) #[] #[t1, t3, t4]) [t25] w6 fun t26 w7 =>
  loopT (fun s w Kn Kb Kr => Fimpl_HeapView.l1 (s.headD undef) (s.tail.headD undef) (s.tail.tail.headD undef) (s.tail.tail.tail.headD undef) (s.tail.tail.tail.tail.headD undef) (s.tail.tail.tail.tail.tail.headD undef) w Kn Kb Kr) [t1, (.slice none 0 0), t4, (.func (.func 122) #[] #[t1, t3, t4]), (.slice none 0 0), (.int .i64 0)] w7
  (fun s w => Fimpl_HeapView.k8 (s.headD undef) (s.tail.headD undef) (s.tail.tail.headD undef) (s.tail.tail.tail.headD undef) (s.tail.tail.tail.tail.headD undef) (s.tail.tail.tail.tail.tail.headD undef) w R)
  (fun s w => Fimpl_HeapView.r9 (s.headD undef) (s.tail.headD undef) (s.tail.tail.headD undef) (s.tail.tail.tail.headD undef) (s.tail.tail.tail.tail.headD undef) (s.tail.tail.tail.tail.tail.headD undef) w R))
def Fimpl_HeapView.H : Hints := {draw := fun i => match i with | 11 => { T := [0, 1, 0, 0, 12, 28, 63, 127, 255, 0, 1023], F := [9] } | _ => {}, loop := fun i => match i with | 9 => some (0, [1, 2, 4, 5, 6, 7]) | 15 => some (2, [1, 2, 4, 5, 6, 7, 8, 54, 55, 56]) | 18 => some (4, [1, 2, 4, 5, 6, 7, 8, 10, 54, 55, 56, 60, 61, 62]) | _ => none, join := fun i => match i with | 44 => some [1, 2, 4, 5, 6, 7, 8] | _ => none}
theorem Fimpl_HeapView.eq (t0 : Value) : trF PR CX Fimpl_HeapView.H Tryz.f40 [t0] = Fimpl_HeapView t0 := by kernel_rfl
theorem Fimpl_HeapView.cl {t0 : Value} {w : World} {R : VW} (h : Fimpl_HeapView t0 w R) : clT PR 40 [t0] w R := cl_of_tr (H := Fimpl_HeapView.H) ctxOk Tryz.func40 rfl (by rw [Fimpl_HeapView.eq]; exact h)
def Fimpl_HeapTrim (t0 t1 : Value) (w : World) (R : VW) : Prop :=
  boxT 42 t0 w fun t2 w1 =>
  boxT 57 t1 w1 fun t3 w2 =>
  allocT 57 #[(.slice none 0 0), (.int .i64 0), (.int .i64 0), (.slice none 0 0), (.int .i64 0)] w2 fun t4 w3 =>
  ldsT 1 t2 w3 fun t7 =>
  ldsT 5 t3 w3 fun t8 =>
  clT PR 65 [t7, t8] w3 fun t9 w4 =>
  notT t9 fun t10 =>
  condT t10
  (bldT #[(.slice none 0 0), (.int .i64 0), (.int .i64 0), (.slice none 0 0), (.int .i64 0)] [] fun t11 =>
  stsT 5 t4 t11 w4 fun w5 =>
  ldsT 5 t4 w5 fun r6 =>
  R (.tuple #[r6, (.bool false)]) w5)
  (ldsT 5 t3 w4 fun t12 =>
  clT PR 40 [t12] w4 fun t13 w7 =>
  fadT 2 t3 fun t17 =>
  ldT t17 (w7.drew) fun t18 =>
  fadT 3 t3 fun t19 =>
  ldT t19 (w7.drew) fun t20 =>
  fadT 4 t3 fun t22 =>
  ldT t22 (w7.drew) fun t23 =>
  clT PR 123 [t13] (w7.drew) fun t16 w8 =>
  (ldT t22 w8 fun u => u = t23) ∧
  (ldT t19 w8 fun u => u = t20) ∧
  (ldT t17 w8 fun u => u = t18) ∧
  clT PR 98 [t20] w8 fun t21 w9 =>
  (ldT t22 w9 fun u => u = t23) ∧
  (ldT t17 w9 fun u => u = t18) ∧
  bldT #[(.slice none 0 0), (.int .i64 0), (.int .i64 0), (.slice none 0 0), (.int .i64 0)] [(0, 1, t13), (1, 1, t16), (2, 1, t18), (3, 1, t21), (4, 1, t23)] fun t24 =>
  stsT 5 t4 t24 w9 fun w10 =>
  ldsT 5 t4 w10 fun r11 =>
  R (.tuple #[r11, (.bool true)]) w10)
def Fimpl_HeapTrim.H : Hints := {draw := fun i => match i with | 4 => { T := [0, 0, 2, 0, 8, 0, 32, 102, 0, 256, 1023, 2047, 4095] } | _ => {}}
theorem Fimpl_HeapTrim.eq (t0 t1 : Value) : trF PR CX Fimpl_HeapTrim.H Tryz.f43 [t0, t1] = Fimpl_HeapTrim t0 t1 := by kernel_rfl
theorem Fimpl_HeapTrim.cl {t0 t1 : Value} {w : World} {R : VW} (h : Fimpl_HeapTrim t0 t1 w R) : clT PR 43 [t0, t1] w R := cl_of_tr (H := Fimpl_HeapTrim.H) ctxOk Tryz.func43 rfl (by rw [Fimpl_HeapTrim.eq]; exact h)
def Fimpl_HeapView_1 (t0 t1 t2 t3 : Value) (w : World) (R : VW) : Prop :=
  fadT 0 t1 fun t9 =>
  ldT t9 w fun t10 =>
  lenT t10 fun t11 =>
  binT .sub t11 (.int .i64 1) fun t12 =>
  clT PR 121 [t0, (.int .i64 0), t12] w fun t13 w1 =>
  notT t13 fun t14 =>
  condT t14
  (R (.int .i64 (-1)) w1)
  (ldT t2 w1 fun t16 =>
  opT PR (Instr.lookup 155 t16 t0 true) w1 fun t18 w2 =>
  extT t18 0 fun t19 =>
  extT t18 1 fun t20 =>
  notT t20 fun t22 =>
  condT t22
  (ldT t3 w2 fun t23 =>
  lenT t23 fun t24 =>
  ldT t2 w2 fun t25 =>
  opU PR (Instr.mapUpdate 155 t25 t0 t24) w2 fun w3 =>
  ldT t3 w3 fun t28 =>
  bslT 3 1 1 #[(.int .i64 0)] [(0, 1, t0)] w3 fun t30 w4 =>
  opT PR (Builtin.append_ #[26, 26] 26 #[t28, t30]) w4 fun t31 w5 =>
  stT t3 t31 w5 fun w6 =>
  R t24 w6)
  (R t19 w2))
def Fimpl_HeapView_1.H : Hints := {}
theorem Fimpl_HeapView_1.eq (t0 t1 t2 t3 : Value) : trF PR CX Fimpl_HeapView_1.H Tryz.f122 [t0, t1, t2, t3] = Fimpl_HeapView_1 t0 t1 t2 t3 := by kernel_rfl
theorem Fimpl_HeapView_1.cl {t0 t1 t2 t3 : Value} {w : World} {R : VW} (h : Fimpl_HeapView_1 t0 t1 t2 t3 w R) : clT PR 122 [t0, t1, t2, t3] w R := cl_of_tr (H := Fimpl_HeapView_1.H) ctxOk Tryz.func122 rfl (by rw [Fimpl_HeapView_1.eq]; exact h)
def Fimpl_start (t0 : Value) (w : World) (R : VW) : Prop :=
  lenT t0 fun t4 =>
  opT PR (Builtin.min_ #[3, 3] 3 #[t4, (.int .i64 1)]) w fun t5 w1 =>
  binT .sub t5 (.int .i64 1) fun t6 =>
  R t6 w1
def Fimpl_start.H : Hints := {}
theorem Fimpl_start.eq (t0 : Value) : trF PR CX Fimpl_start.H Tryz.f123 [t0] = Fimpl_start t0 := by kernel_rfl
theorem Fimpl_start.cl {t0 : Value} {w : World} {R : VW} (h : Fimpl_start t0 w R) : clT PR 123 [t0] w R := cl_of_tr (H := Fimpl_start.H) ctxOk Tryz.func123 rfl (by rw [Fimpl_start.eq]; exact h)
end Go.PT
namespace Go.PT
section
variable {ν : Type} [DecidableEq ν] {g : Gr ν} {os t l m : List ν} {a : ν} {v : V}
theorem idxOf_app (h : a ∈ os) : (os ++ t).idxOf a = os.idxOf a := by rw [List.idxOf_append, if_pos h]
theorem nameV_app (h : v.1 = 2 → g.rf v.2 ∈ os) : nameV g (os ++ t) v = nameV g os v := by
  unfold nameV
  by_cases e : v.1 = 2
  · rw [if_pos e, if_pos e, idxOf_app (h e)]
  · rw [if_neg e, if_neg e]
theorem refV_of (h : v.1 = 2) : refV g v = some (g.rf v.2) := by unfold refV; rw [if_pos h]
theorem refV_not (h : v.1 ≠ 2) : refV g v = none := by unfold refV; rw [if_neg h]
theorem names_app {vs : List V} (h : ∀ b ∈ vs.filterMap (refV g), b ∈ os) : vs.map (nameV g (os ++ t)) = vs.map (nameV g os) :=
  List.map_congr_left (fun v hv => nameV_app (fun e => h _ (List.mem_filterMap.mpr ⟨v, hv, refV_of e⟩)))
theorem seen_app (h : ∀ b ∈ refs g a, b ∈ os) : seen g (os ++ t) a = seen g os a := by
  unfold refs at h
  have h1 : ∀ b ∈ (g.sender a).toList, b ∈ os := fun b hb => h b (List.mem_append.mpr (.inl hb))
  have h2 : ∀ b ∈ (g.temps a).filterMap (refV g), b ∈ os := fun b hb => h b (List.mem_append.mpr (.inr (List.mem_append.mpr (.inl hb))))
  have h3 : ∀ b ∈ (g.stack a).filterMap (refV g), b ∈ os := fun b hb => h b (List.mem_append.mpr (.inr (List.mem_append.mpr (.inr hb))))
  unfold seen
  rw [names_app h2, names_app h3]
  cases hs : g.sender a with
  | none => rfl
  | some b =>
    rw [hs] at h1
    simp only [idxOf_app (h1 b (by simp))]
theorem addAll_app : addAll os (l ++ m) = addAll (addAll os l) m := by unfold addAll; rw [List.foldl_append]
theorem addAll_one : addAll os [a] = add1 os a := rfl
end
structure Chg (q : List Nat) (L : Lab) (w : World) (L' : Lab) (w' : World) : Prop where
  fr : Fr (fun b => L b = some [7] ∨ L b = some [8] ∨ L b = some [9] ∨ L b = some q) w w'
  lx : Lx [7] w L L'
  lim : Lim L' w'
section
variable {α : Type} {q r : List Nat} {L L' L'' M : Lab} {w w' w'' : World}
theorem Chg.refl (h : Lim L w) : Chg q L w L w := ⟨Fr.refl _ _, fun b => .inl rfl, h⟩
theorem Chg.ext (c : Chg q L w L' w') (e : Ext w' w'') : Chg q L w L' w'' := ⟨c.fr.ext e, c.lx, c.lim.fr e⟩
theorem Chg.trans (c : Chg q L w L' w') (d : Chg q L' w' L'' w'') : Chg q L w L'' w'' := by
  refine ⟨c.fr.trans' d.fr (fun _ _ h => h) (fun x hx h => by rw [c.lx.old hx] at h; exact h), fun b => ?_, d.lim⟩
  rcases d.lx b with h | ⟨h1, h2⟩
  · rcases c.lx b with k | ⟨k1, k2⟩
    · exact .inl (h.trans k)
    · exact .inr ⟨k1, h.trans k2⟩
  · exact .inr ⟨Nat.le_trans c.fr.size h1, h2⟩
theorem Chg.mu (c : Chg q L w L' w') : Mut L w L' w' :=
  ⟨c.fr.to (fun b _ h e => by rw [e] at h; simp at h), fun b hb hn => by rw [c.lx.old hb]; exact hn, c.lim⟩
theorem Chg.row {kd : Kd α} {xs : List α} {v : Value} (c : Chg q L w L' w') (hl : Lim L w) (h : Sl kd (Own L) w r xs v) (hr : ∀ s, r ++ s ≠ [7] ∧ r ++ s ≠ [8] ∧ r ++ s ≠ [9] ∧ r ++ s ≠ q) : Sl kd (Own L') w' r xs v :=
  h.own c.fr (fun x s hb => ⟨fun e => by
    rw [hb] at e
    obtain ⟨h1, h2, h3, h4⟩ := hr s
    rcases e with e | e | e | e
    · exact h1 (Option.some.inj e)
    · exact h2 (Option.some.inj e)
    · exact h3 (Option.some.inj e)
    · exact h4 (Option.some.inj e), c.lx.lab hl hb⟩)
theorem Chg.weak (c : Chg [7] L w L' w') : Chg q L w L' w' :=
  ⟨c.fr.to (fun b _ h => by
    rcases h with h | h | h | h
    · exact .inl h
    · exact .inr (.inl h)
    · exact .inr (.inr (.inl h))
    · exact .inl h), c.lx, c.lim⟩
theorem Chg.at {x : Nat} (e : Fr (fun y => y = x) w w') (hx : L x = some q) (hl : Lim L w) : Chg q L w L w' :=
  ⟨e.to (fun b _ h => by rw [h]; exact .inr (.inr (.inr hx))), fun b => .inl rfl, hl.fr e⟩
end
structure VS (L : Lab) (w : World) (bp bo bm : Nat) (os : List Int) (vo : Value) : Prop where
  place : Blk w bp [.map (some bm)]
  lp : L bp = some [6]
  map : MapB w bm os
  lm : L bm = some [8]
  ord : Blk w bo [vo]
  lo : L bo = some [9]
  row : Sl kInt (Own L) w [7] os vo
  lim : Lim L w
section
variable {q : List Nat} {L L' M : Lab} {w w' : World} {bp bo bm x : Nat} {os : List Int} {vo : Value}
theorem VS.ext (V : VS L w bp bo bm os vo) (e : Ext w w') : VS L w' bp bo bm os vo :=
  ⟨V.place.ext e, V.lp, V.map.keep e (fun h => h), V.lm, V.ord.ext e, V.lo, V.row.keepX e, V.lim.fr e⟩
theorem VS.loc (V : VS L w bp bo bm os vo) (e : Loc L w w' x) : VS L w' bp bo bm os vo :=
  ⟨V.place.fr e.fr (fun h => by have h9 := V.lp; rw [h, e.un] at h9; cases h9), V.lp, V.map.keep e.fr (fun h => by have h9 := V.lm; rw [h, e.un] at h9; cases h9), V.lm,
    V.ord.fr e.fr (fun h => by have h9 := V.lo; rw [h, e.un] at h9; cases h9), V.lo, V.row.loc e, V.lim.fr e.fr⟩
theorem VS.other (V : VS L w bp bo bm os vo) (e : Fr (fun y => y = x) w w') (hx : L x = some q) (h6 : q ≠ [6]) (h7 : ∀ s, [7] ++ s ≠ q) (h8 : q ≠ [8]) (h9 : q ≠ [9]) : VS L w' bp bo bm os vo :=
  ⟨V.place.other V.lp e hx (fun h => h6 h.symm), V.lp, V.map.keep e (fun h => by have h9 := V.lm; rw [h, hx] at h9; exact h8 (Option.some.inj h9)), V.lm,
    V.ord.other V.lo e hx (fun h => h9 h.symm), V.lo, V.row.other e hx h7, V.lim.fr e⟩
theorem VS.join (V : VS L w bp bo bm os vo) (hm : Lim M w) : VS (joinL L q M) w bp bo bm os vo :=
  ⟨V.place, joinL_left V.lp, V.map, joinL_left V.lm, V.ord, joinL_left V.lo, V.row.inL, joinL_lim V.lim hm⟩
end
attribute [local irreducible] ldT ldsT stT stsT allocT boxT bldT bslT nilT fadT ixaT fldT extT lenT pickT binT notT cviT opT opU condT clT clvT ivT loopT arT ndT World.cell? World.frozen? World.alloc World.drew World.setCell Blk Cells Sl
theorem c_see {L : Lab} {w : World} {h : Hp} {n : Int} {bh bp bo bm : Nat} {os : List Int} {vo uc us : Value} {R : VW} (V : VS L w bp bo bm os vo) (kh : Blk w bh (heapCells h uc us)) (hc : Sl kCall Any w [] h.calls uc) (hl : h.calls.length ≤ 1073741824) (n0 : 0 ≤ n) (n1 : n < h.calls.length) (hol : os.length ≤ 1000000)
    (hR : ∀ w' L' vo', Chg [7] L w L' w' → VS L' w' bp bo bm (add1 os n) vo' → R (.int .i64 ((add1 os n).idxOf n : Nat)) w') :
    clT PR 122 [.int .i64 n, .pointer (some ⟨bh, 0, none⟩), .pointer (some ⟨bp, 0, none⟩), .pointer (some ⟨bo, 0, none⟩)] w R := by
  refine Fimpl_HeapView_1.cl ?_
  unfold Fimpl_HeapView_1
  (refine fad_of ?_)
  refine ld_of (kh.cell rfl) ?_
  refine hc.len_of ?_
  (refine sub_of (by (omega)) (by (omega)) ?_)
  refine c_implIn ?_
  rw [inB_t n0 (by omega)]
  (refine not_of ?_)
  refine condN_of (fun h => by cases h) (fun _ => ?_)
  refine ld_of (V.place.cell rfl) ?_
  refine look_of (by kernel_rfl) V.map ?_
  refine ext_of rfl ?_
  refine ext_of rfl ?_
  (refine not_of ?_)
  refine condN_of (fun hn => ?_) (fun hn => ?_)
  · have hn : n ∉ os := of_decide_eq_false hn
    have ha : add1 os n = os ++ [n] := by unfold add1; rw [if_neg hn]
    refine ld_of (V.ord.cell rfl) ?_
    refine V.row.len_of ?_
    refine ld_of (V.place.cell rfl) ?_
    refine upd_of (by kernel_rfl) V.map hn (fun w3 e3 m3 => ?_)
    have row3 := V.row.other e3 V.lm (by simp)
    have ord3 := V.ord.other V.lo e3 V.lm (by simp)
    have place3 := V.place.other V.lp e3 V.lm (by simp)
    have lim3 := V.lim.fr e3
    refine ld_of (ord3.cell rfl) ?_
    refine bsl_of' rfl rfl rfl (fun b4 w4 e4 hb4 k4 => ?_)
    have m4 := m3.keep e4 (fun h => h)
    refine grow_lit [n] (by kernel_rfl) (row3.keepX e4) (show Blk w4 b4 [.int .i64 n] from k4) rfl (by simp; omega) (lim3.fr e4) (fun v5 w5 L5 g _ h5 => ?_)
    have lim4 := lim3.fr e4
    have lp5 := g.lx.lab lim4 V.lp
    have lm5 := g.lx.lab lim4 V.lm
    have lo5 := g.lx.lab lim4 V.lo
    have ord5 : Blk w5 bo [vo] := (ord3.ext e4).fr g.fr (fun e => by rw [V.lo] at e; simp at e)
    have place5 : Blk w5 bp [.map (some bm)] := (place3.ext e4).fr g.fr (fun e => by rw [V.lp] at e; simp at e)
    have m5 : MapB w5 bm (os ++ [n]) := m4.keep g.fr (fun e => by rw [V.lm] at e; simp at e)
    refine st_of' ord5 (by simp) h5.one (fun w6 e6 k6 => ?_)
    have hi : (add1 os n).idxOf n = os.length := by rw [ha, List.idxOf_append, if_neg hn]; simp
    rw [← hi]
    refine hR w6 L5 v5 ⟨?_, fun b => ?_, g.lim.fr e6⟩ ⟨place5.other lp5 e6 lo5 (by simp), lp5, ?_, lm5, k6, lo5, ?_, g.lim.fr e6⟩
    · refine (e3.to (fun b _ h => ?_)).trans ((Ext.fr e4).trans ((g.fr.to (fun b _ h => .inl h)).trans (e6.to (fun b _ h => ?_))))
      · rw [h]; exact .inr (.inl V.lm)
      · rw [h]; exact .inr (.inr (.inl V.lo))
    · rcases g.lx b with h | ⟨h, k⟩
      · exact .inl h
      · have := e3.size; have := e4.size
        exact .inr ⟨by omega, k⟩
    · rw [ha]
      exact m5.keep e6 (fun h => by rw [h, lo5] at lm5; simp at lm5)
    · rw [ha]
      exact h5.other e6 lo5 (by simp)
  · have hn : n ∈ os := of_decide_eq_true hn
    have ha : add1 os n = os := by unfold add1; rw [if_pos hn]
    rw [if_pos hn]
    have := hR w L vo (Chg.refl V.lim) (by rw [ha]; exact V)
    rwa [ha] at this
end Go.PT
namespace Go.PT
def ixV {ν : Type} [DecidableEq ν] (l : List ν) (a : ν) : Nat := l.idxOf a
theorem ixV_cons {ν : Type} [DecidableEq ν] {l : List ν} {a b : ν} : ixV (b :: l) a = if b = a then 0 else ixV l a + 1 := by
  unfold ixV
  rw [List.idxOf_cons]
  by_cases e : b = a
  · subst e; simp
  · have h : (b == a) = false := by simp [e]
    rw [h, if_neg e]; rfl
theorem ixV_eq : ∀ (l : List V) (a : V), l.idxOf a = ixV l a
  | [], a => rfl
  | b :: l, a => by
    rw [ixV_cons, List.idxOf_cons, ixV_eq l a]
    by_cases e : b = a
    · subst e; simp
    · have h : (b == a) = false := by simp [e]
      rw [h, if_neg e]; rfl
theorem ixV_new {ν : Type} [DecidableEq ν] {l : List ν} {a : ν} (h : a ∉ l) : ixV (l ++ [a]) a = l.length := by
  unfold ixV
  rw [List.idxOf_append, if_neg h]; simp
def GP (m : Mc) : Gr V where
  now := (Go.PT.topSp m).map (plS m)
  met := fun v => (clAt m v.1 v.2).method
  pc := fun v => (clAt m v.1 v.2).pc
  temps := fun v => (clAt m v.1 v.2).temps
  stack := fun v => (clAt m v.1 v.2).stack
  sender := fun v => if (byOf m v.1 v.2).2.2.1 = true then some ((byOf m v.1 v.2).1, (byOf m v.1 v.2).2.1) else none
  dead := fun v => (clAt m v.1 v.2).dead
  rf := fun t => ((plcOf m t).1, (plcOf m t).2.1)
def RP (m : Mc) : Sp → V → Prop := fun s v => InM m s ∧ plS m s = v
section
variable {p : Pg} {m : Mc} {s : Sp} {a b t : Int}
theorem vals_place (W : WF m) {l : List V} (hl : ∀ v ∈ l, v.1 = 2 → 0 ≤ v.2 ∧ v.2 < m.twins.length) : RL (RV (RP m) twSp (GP m).rf) l l :=
  RL.self (fun v hv => ⟨rfl, fun e => by
    obtain ⟨t0, t1⟩ := hl v hv e
    refine ⟨in_tw t0 t1, ?_⟩
    show plS m (twSp v.2) = ((plcOf m v.2).1, (plcOf m v.2).2.1)
    rw [plc_tw W t0 t1], fun _ => rfl⟩)
theorem MOK.isoP (M : MOK p m) : Iso (GM m) (GP m) (RP m) where
  one := fun h h' => h.2.symm.trans h'.2
  two := fun h h' => pl_inj M.wf h.1 h'.1 (h.2.trans h'.2.symm)
  met := fun {a b} r => by obtain ⟨h, rfl⟩ := r; exact (cl_pl M.wf h).method.symm
  pc := fun {a b} r => by obtain ⟨h, rfl⟩ := r; exact (cl_pl M.wf h).pc.symm
  dead := fun {a b} r => by obtain ⟨h, rfl⟩ := r; exact (cl_pl M.wf h).dead.symm
  temps := fun {a b} r => by
    obtain ⟨h, rfl⟩ := r
    show RL _ (clOf m a).temps (clAt m (plS m a).1 (plS m a).2).temps
    rw [(cl_pl M.wf h).temps]
    exact vals_place M.wf (fun v hv e => val_in M.wf h v (List.mem_append.mpr (.inl hv)) e)
  stack := fun {a b} r => by
    obtain ⟨h, rfl⟩ := r
    show RL _ (clOf m a).stack (clAt m (plS m a).1 (plS m a).2).stack
    rw [(cl_pl M.wf h).stack]
    exact vals_place M.wf (fun v hv e => val_in M.wf h v (List.mem_append.mpr (.inr hv)) e)
  sender := fun {a b} r => by
    obtain ⟨h, rfl⟩ := r
    show RO _ (sndOf m a) (if (byOf m (plS m a).1 (plS m a).2).2.2.1 = true then _ else none)
    rw [by_pl M.wf h]
    cases hb : sndOf m a with
    | none => exact trivial
    | some c => exact ⟨snd_in M.wf h hb, rfl⟩
  now := by
    show RO _ (Go.PT.topSp m) ((Go.PT.topSp m).map (plS m))
    cases h : Go.PT.topSp m with
    | none => exact trivial
    | some c => exact ⟨M.top_in h, rfl⟩
def allPl (m : Mc) : List V := (allS m).map (plS m)
theorem mem_allPl (M : MOK p m) {v : V} : v ∈ allPl m ↔ ∃ s, InM m s ∧ plS m s = v := by
  unfold allPl
  rw [List.mem_map]
  exact ⟨fun ⟨s, h, e⟩ => ⟨s, (mem_allS M.wf).mp h, e⟩, fun ⟨s, h, e⟩ => ⟨s, (mem_allS M.wf).mpr h, e⟩⟩
theorem MOK.finP (M : MOK p m) : Fin' (GP m) (allPl m) := by
  refine ⟨fun v hv => ?_, fun v hv b hb => ?_⟩
  · have hv : (Go.PT.topSp m).map (plS m) = some v := hv
    cases h : Go.PT.topSp m with
    | none => rw [h] at hv; cases hv
    | some c =>
      rw [h] at hv
      exact (mem_allPl M).mpr ⟨c, M.top_in h, Option.some.inj hv⟩
  · obtain ⟨s, hs, e⟩ := (mem_allPl M).mp hv
    obtain ⟨a, ha, r⟩ := (refs_rel M.isoP (a := s) (b := v) ⟨hs, e⟩).flip.mem hb
    exact (mem_allPl M).mpr ⟨a, r.1, r.2⟩
theorem allPl_len : (allPl m).length = (allS m).length := by unfold allPl; rw [List.length_map]
theorem MOK.viewP (M : MOK p m) : view (GP m) (allPl m).length = viewM m := by
  rw [← view_rel M.isoP, allPl_len]; rfl
theorem at_allPl (M : MOK p m) {v : V} (h : v ∈ allPl m) : AtM m v.1 v.2 := by
  obtain ⟨s, hs, rfl⟩ := (mem_allPl M).mp h
  exact at_pl M.wf hs
theorem told_self (W : WF m) (a0 : 0 ≤ a) (a1 : a < m.pages.length) (b0 : 0 ≤ b) (b1 : b < nF m a) (h : ¬ (fmAt m a b).twin < 0) : plcOf m (fmAt m a b).twin = (a, b, true) := by
  obtain ⟨h1, h2, h3⟩ := W.fT a b a0 a1 b0 b1
  obtain ⟨h4, h5⟩ := h3 (by omega)
  have h6 := (plc_on W (by omega) h2 (by omega)).1
  rw [h6, h4, h5]
end
end Go.PT
namespace Go.PT
theorem addAll_len {ν : Type} [DecidableEq ν] : ∀ {l out : List ν}, (addAll out l).length ≤ out.length + l.length
  | [], out => by simp [addAll]
  | a :: l, out => by
    have h1 : addAll out (a :: l) = addAll (add1 out a) l := rfl
    have h2 := addAll_len (l := l) (out := add1 out a)
    have h3 : (add1 out a).length ≤ out.length + 1 := by unfold add1; split <;> simp
    rw [h1, List.length_cons]; omega
def relab (L : Lab) (n : Nat) : Lab := fun b => match L b with
  | some (5 :: s) => some (0 :: n :: s)
  | x => x
section
variable {α : Type} {L : Lab} {w : World} {n : Nat}
theorem relab5 {b : Nat} {s : List Nat} (h : L b = some (5 :: s)) : relab L n b = some (0 :: n :: s) := by unfold relab; rw [h]; rfl
theorem relab_ne {b : Nat} {r : List Nat} (h : L b = some r) (hr : ∀ s, r ≠ 5 :: s) : relab L n b = some r := by
  unfold relab
  split
  · rename_i s e; rw [h] at e; exact absurd (Option.some.inj e) (hr s)
  · exact h
theorem relab_none {b : Nat} (h : L b = none) : relab L n b = none := by unfold relab; rw [h]
theorem relab_lim (h : Lim L w) : Lim (relab L n) w := fun b p hb => by
  cases e : L b with
  | none => rw [relab_none e] at hb; cases hb
  | some q => exact h b q e
theorem Mut.relab (h : Lim L w) : Mut L w (relab L n) w := ⟨Fr.refl _ _, fun b _ e => relab_none e, relab_lim h⟩
theorem Sl.relab5 {kd : Kd α} {q : List Nat} {xs : List α} {v : Value} (h : Sl kd (Own L) w (5 :: q) xs v) : Sl kd (Own (relab L n)) w (0 :: n :: q) xs v :=
  h.own (Fr.refl No w) (fun b r hb => ⟨fun e => e, Go.PT.relab5 hb⟩)
theorem Sl.relabN {kd : Kd α} {i : Nat} {q : List Nat} {xs : List α} {v : Value} (h : Sl kd (Own L) w (i :: q) xs v) (hi : i ≠ 5) : Sl kd (Own (relab L n)) w (i :: q) xs v :=
  h.own (Fr.refl No w) (fun b r hb => ⟨fun e => e, relab_ne hb (fun s e => hi (by injection e))⟩)
theorem VS.relab {bp bo bm : Nat} {os : List Int} {vo : Value} (V : VS L w bp bo bm os vo) : VS (relab L n) w bp bo bm os vo :=
  ⟨V.place, relab_ne V.lp (by simp), V.map, relab_ne V.lm (by simp), V.ord, relab_ne V.lo (by simp), V.row.relabN (by decide), relab_lim V.lim⟩
theorem VS.grow {L' : Lab} {w' : World} {bp bo bm : Nat} {os : List Int} {vo : Value} (V : VS L w bp bo bm os vo) (g : Grw [0] L w L' w') : VS L' w' bp bo bm os vo :=
  ⟨V.place.fr g.fr (fun e => by rw [V.lp] at e; simp at e), g.lx.lab V.lim V.lp, V.map.keep g.fr (fun e => by rw [V.lm] at e; simp at e), g.lx.lab V.lim V.lm, V.ord.fr g.fr (fun e => by rw [V.lo] at e; simp at e), g.lx.lab V.lim V.lo, V.row.grow g V.lim (by simp), g.lim⟩
end
attribute [local irreducible] ldT ldsT stT stsT allocT boxT bldT bslT nilT fadT ixaT fldT extT lenT pickT binT notT cviT opT opU condT clT clvT ivT loopT arT ndT World.cell? World.frozen? World.alloc World.drew World.setCell Blk Cells Sl
theorem view_list {L : Lab} {w0 w : World} {l : List (Nat × List Value)} {h : Hp} {bh bp bo bm : Nat} {os : List Int} {vo uc us vx x2 x6 x7 x8 x54 x55 x56 : Value} {q : List Nat} {xs : List V} {Kb Kr : LW}
    (E : En noL w0 L w l) (hm : (bh, heapCells h uc us) ∈ l) (hc : Sl kCall Any w0 [] h.calls uc)
    (hq : q = [5, 2] ∨ q = [5, 3]) (hl : h.calls.length ≤ 1073741824) (Q : VS L w bp bo bm os vo) (hx : Sl kPair (Own L) w q xs vx) (hxl : xs.length ≤ 1000) (hin : ∀ v ∈ xs, v.1 = 2 → 0 ≤ v.2 ∧ v.2 < h.calls.length) (hol : os.length + xs.length ≤ 1000000)
    (hK : ∀ w' L' vo', En noL w0 L' w' l → Chg q L w L' w' → VS L' w' bp bo bm (addAll os (xs.filterMap (refV (GH h)))) vo' → Sl kPair (Own L') w' q (xs.map (nameV (GH h) (addAll os (xs.filterMap (refV (GH h)))))) vx → Kb [.pointer (some ⟨bh, 0, none⟩), x2, .pointer (some ⟨bo, 0, none⟩), (.func (.func 122) #[] #[.pointer (some ⟨bh, 0, none⟩), .pointer (some ⟨bp, 0, none⟩), .pointer (some ⟨bo, 0, none⟩)]), x6, x7, x8, vx, x54, x55, x56, vx, .int .i64 xs.length, .int .i64 xs.length] w') :
    loopT (fun s w Kn Kb Kr => Fimpl_HeapView.l3 (s.headD undef) (s.tail.headD undef) (s.tail.tail.headD undef) (s.tail.tail.tail.headD undef) (s.tail.tail.tail.tail.headD undef) (s.tail.tail.tail.tail.tail.headD undef) (s.tail.tail.tail.tail.tail.tail.headD undef) (s.tail.tail.tail.tail.tail.tail.tail.headD undef) (s.tail.tail.tail.tail.tail.tail.tail.tail.headD undef) (s.tail.tail.tail.tail.tail.tail.tail.tail.tail.headD undef) (s.tail.tail.tail.tail.tail.tail.tail.tail.tail.tail.headD undef) (s.tail.tail.tail.tail.tail.tail.tail.tail.tail.tail.tail.headD undef) (s.tail.tail.tail.tail.tail.tail.tail.tail.tail.tail.tail.tail.headD undef) (s.tail.tail.tail.tail.tail.tail.tail.tail.tail.tail.tail.tail.tail.headD undef) w Kn Kb Kr) [.pointer (some ⟨bh, 0, none⟩), x2, .pointer (some ⟨bo, 0, none⟩), (.func (.func 122) #[] #[.pointer (some ⟨bh, 0, none⟩), .pointer (some ⟨bp, 0, none⟩), .pointer (some ⟨bo, 0, none⟩)]), x6, x7, x8, vx, x54, x55, x56, vx, .int .i64 xs.length, .int .i64 (0 : Nat)] w Kb Kr := by
  have hrow : ∀ s, q ++ s ≠ [7] ∧ q ++ s ≠ [8] ∧ q ++ s ≠ [9] := by rcases hq with rfl | rfl <;> simp
  have hrow7 : ∀ s, q ++ s ≠ [7] := fun s => (hrow s).1
  have h6 : q ≠ [6] ∧ q ≠ [8] ∧ q ≠ [9] ∧ ∀ s, [7] ++ s ≠ q := by rcases hq with rfl | rfl <;> simp
  refine loop_of (fun m s wx => ∃ (ys zs : List V) (L' : Lab) (vo' : Value), s = [.pointer (some ⟨bh, 0, none⟩), x2, .pointer (some ⟨bo, 0, none⟩), (.func (.func 122) #[] #[.pointer (some ⟨bh, 0, none⟩), .pointer (some ⟨bp, 0, none⟩), .pointer (some ⟨bo, 0, none⟩)]), x6, x7, x8, vx, x54, x55, x56, vx, .int .i64 xs.length, .int .i64 ys.length] ∧ xs = ys ++ zs ∧ En noL w0 L' wx l ∧ Chg q L w L' wx ∧ VS L' wx bp bo bm (addAll os (ys.filterMap (refV (GH h)))) vo' ∧ Sl kPair (Own L') wx q (ys.map (nameV (GH h) (addAll os (ys.filterMap (refV (GH h))))) ++ zs) vx ∧ m = zs.length) ?_ (m := xs.length)
    ⟨[], xs, L, vo, rfl, rfl, E, Chg.refl Q.lim, by simpa [addAll] using Q, by simpa using hx, rfl⟩
  clear E Q hx
  rintro m s wx Kn ⟨ys, zs, L', vo', rfl, hxs, E, c, Q, hx, hmm⟩ hKn
  intro _
  simp only [List.headD_cons, List.tail_cons]
  have hlen : xs.length = ys.length + zs.length := by rw [hxs, List.length_append]
  (refine lss_of ?_)
  refine condLt_of (fun hi => ?_) (fun hi => ?_)
  · cases zs with
    | nil => exfalso; simp at hlen; omega
    | cons v zs =>
    have hin2 := hin v (by rw [hxs]; simp)
    have hol2 : (addAll os (ys.filterMap (refV (GH h)))).length ≤ 1000000 := by have h1 := addAll_len (l := ys.filterMap (refV (GH h))) (out := os); have h2 := List.length_filterMap_le (refV (GH h)) ys; omega
    have hys : ∀ b ∈ ys.filterMap (refV (GH h)), b ∈ addAll os (ys.filterMap (refV (GH h))) := fun b hb => addAll_sub.mpr (.inr hb)
    have hnext : addAll os ((ys ++ [v]).filterMap (refV (GH h))) = if v.1 = 2 then add1 (addAll os (ys.filterMap (refV (GH h)))) v.2 else addAll os (ys.filterMap (refV (GH h))) := by
      rw [List.filterMap_append, addAll_app]
      by_cases h2 : v.1 = 2
      · rw [if_pos h2, List.filterMap_cons_some (refV_of h2)]; rfl
      · rw [if_neg h2, List.filterMap_cons_none (refV_not h2)]; rfl
    generalize addAll os (ys.filterMap (refV (GH h))) = os1 at Q hx hys hnext hol2
    have hlr : (ys.map (nameV (GH h) os1) ++ v :: zs).length = xs.length := by rw [hlen]; simp
    have hat : (ys.map (nameV (GH h) os1) ++ v :: zs)[ys.length]? = some v := by rw [List.getElem?_append_right (by simp)]; simp
    refine pair_ix (hx.any (q := [])) (by omega) (by omega) (fun b o hcell => ?_)
    have hpv : pairAt (ys.map (nameV (GH h) os1) ++ v :: zs) ys.length = v := by
      unfold pairAt
      rw [Int.toNat_natCast, List.getD_eq_getElem?_getD, hat]; rfl
    rw [hpv] at hcell
    refine lds_of hcell rfl ?_
    refine E.als (vs := [.int .i64 v.1, .int .i64 v.2]) rfl rfl rfl (by simp [Value.oneCell']) (fun bt w1 E e1 => ?_)
    replace Q := Q.ext e1
    replace hx := hx.keepX e1
    replace c := c.ext e1
    (refine fad_of ?_)
    refine E.ld (.head _) rfl ?_
    (refine eql_of ?_)
    refine condP_of (fun h2 => ?_) (fun h2 => ?_)
    · rw [if_pos h2] at hnext
      obtain ⟨n0, n1⟩ := hin2 h2
      (refine fad_of ?_)
      refine E.ld (.head _) rfl ?_
      refine clv_of (by kernel_rfl) rfl ?_
      refine c_see Q (E.blk (.tail _ hm)) (hc.ext E.toExt) hl n0 n1 hol2 (fun w2 L2 vo2 c2 Q2 => ?_)
      have hx2 := c2.row Q.lim hx (fun s => ⟨(hrow s).1, (hrow s).2.1, (hrow s).2.2, (hrow s).1⟩)
      replace E := (E.call c2.mu).pop
      replace c := c.trans c2.weak
      rw [← hnext] at Q2
      generalize hix : ((add1 os1 v.2).idxOf v.2 : Int) = ix
      refine hx2.ixo_of rfl (by omega) (by omega) (fun x b o es mm hxx ha ho hK2 hc4 => ?_)
      rw [Int.toNat_natCast] at ha
      (refine fad_of ?_)
      obtain ⟨hl4, w3, p1, p2, p3, p4⟩ := hx2.puts (vs := [.int .i64 ix]) (off := 1) ha (by omega) (by simp [kPair, Kd.flat]) (by simp [Value.oneCell'])
      refine st_of_stN p1 ?_
      have hT := p4 (v.1, ix) (fun es k1 k2 => by
        have e9 : (ys.map (nameV (GH h) os1) ++ v :: zs)[ys.length]'(by omega) = v := by
          have := List.getElem?_eq_getElem (l := ys.map (nameV (GH h) os1) ++ v :: zs) (i := ys.length) (by omega)
          rw [hat] at this
          exact (Option.some.inj this).symm
        have : es = [.int .i64 ((ys.map (nameV (GH h) os1) ++ v :: zs)[ys.length]'(by omega)).1, .int .i64 ((ys.map (nameV (GH h) os1) ++ v :: zs)[ys.length]'(by omega)).2] := k1
        rw [e9] at this
        subst this
        rfl)
      have ho' : ∃ t, add1 os1 v.2 = os1 ++ t := add1_pre
      obtain ⟨t, ht⟩ := ho'
      have hrow2 : (ys.map (nameV (GH h) os1) ++ v :: zs).set ys.length (v.1, ix) = (ys ++ [v]).map (nameV (GH h) (addAll os ((ys ++ [v]).filterMap (refV (GH h))))) ++ zs := by
        have e1 : (ys.map (nameV (GH h) os1) ++ v :: zs).set ys.length (v.1, ix) = ys.map (nameV (GH h) os1) ++ (v.1, ix) :: zs := by
          rw [List.set_append_right _ _ (by simp)]
          simp
        have e2 : nameV (GH h) (add1 os1 v.2) v = (v.1, ix) := by unfold nameV; rw [if_pos h2, ← hix]; rfl
        rw [e1, hnext, List.map_append, List.map_cons, List.map_nil, e2, ht, names_app hys, List.append_assoc]; rfl
      rw [hrow2] at hT
      (refine add_of (by (omega)) (by (omega)) ?_)
      refine hKn zs.length _ _ (by rw [hmm]; simp) ⟨ys ++ [v], zs, L2, vo2, ?_, by rw [hxs, List.append_assoc]; rfl, E.call (Mut.at p2 hl4 Q2.lim), c.trans (Chg.at p2 hl4 Q2.lim), Q2.other p2 hl4 h6.1 h6.2.2.2 h6.2.1 h6.2.2.1, hT, rfl⟩
      simp
    · rw [if_neg h2] at hnext
      (refine add_of (by (omega)) (by (omega)) ?_)
      refine hKn zs.length _ _ (by rw [hmm]; simp) ⟨ys ++ [v], zs, L', vo', ?_, by rw [hxs, List.append_assoc]; rfl, E.pop, c, by rw [hnext]; exact Q, ?_, rfl⟩
      · simp
      · have e2 : nameV (GH h) os1 v = v := by unfold nameV; rw [if_neg h2]
        rw [hnext, List.map_append, List.map_cons, List.map_nil, e2, List.append_assoc]
        exact hx
  · have hz : zs = [] := by
      cases zs with
      | nil => rfl
      | cons z zs => exfalso; rw [List.length_cons] at hlen; omega
    subst hz
    rw [List.append_nil] at hxs hx
    subst hxs
    exact hK wx L' vo' E c Q hx
theorem view_call {L : Lab} {w0 w : World} {l : List (Nat × List Value)} {h : Hp} {bh bp bo bm b17 : Nat} {os : List Int} {vo uc us ut ust x2 x6 : Value} {c : Cl} {outs : List Cl} {i : Nat} {Kn Kb Kr : LW}
    (E : En noL w0 L w ((b17, cellsC c ut ust) :: l)) (hm : (bh, heapCells h uc us) ∈ l) (hc : Sl kCall Any w0 [] h.calls uc) (hl : h.calls.length ≤ 1073741824) (Q : VS L w bp bo bm os vo)
    (ht : Sl kPair (Own L) w [5, 2] c.temps ut) (hs : Sl kPair (Own L) w [5, 3] c.stack ust) (htl : c.temps.length ≤ 1000) (hsl : c.stack.length ≤ 1000) (hint : ∀ v ∈ c.temps, v.1 = 2 → 0 ≤ v.2 ∧ v.2 < h.calls.length) (hins : ∀ v ∈ c.stack, v.1 = 2 → 0 ≤ v.2 ∧ v.2 < h.calls.length)
    (hol : os.length ≤ 100000) (hx6 : Sl kCall (Own L) w [0] outs x6) (hou : outs.length ≤ 1000) (hi : i ≤ 100000)
    (hK : ∀ w' L' vo' x6', En noL w0 L' w' l → VS L' w' bp bo bm (addAll (addAll os (c.temps.filterMap (refV (GH h)))) (c.stack.filterMap (refV (GH h)))) vo' → Sl kCall (Own L') w' [0] (outs ++ [{ c with temps := c.temps.map (nameV (GH h) (addAll (addAll os (c.temps.filterMap (refV (GH h)))) (c.stack.filterMap (refV (GH h))))), stack := c.stack.map (nameV (GH h) (addAll (addAll os (c.temps.filterMap (refV (GH h)))) (c.stack.filterMap (refV (GH h))))) }]) x6' → Kn [.pointer (some ⟨bh, 0, none⟩), x2, .pointer (some ⟨bo, 0, none⟩), (.func (.func 122) #[] #[.pointer (some ⟨bh, 0, none⟩), .pointer (some ⟨bp, 0, none⟩), .pointer (some ⟨bo, 0, none⟩)]), x6', .int .i64 (i + 1 : Nat)] w') :
    Fimpl_HeapView.j1 (.pointer (some ⟨bh, 0, none⟩)) x2 (.pointer (some ⟨bo, 0, none⟩)) (.func (.func 122) #[] #[.pointer (some ⟨bh, 0, none⟩), .pointer (some ⟨bp, 0, none⟩), .pointer (some ⟨bo, 0, none⟩)]) x6 (.int .i64 i) (.pointer (some ⟨b17, 0, none⟩)) w Kn Kb Kr := by
  have hol2 : (addAll os (c.temps.filterMap (refV (GH h)))).length ≤ 200000 := by have h1 := addAll_len (l := c.temps.filterMap (refV (GH h))) (out := os); have h2 := List.length_filterMap_le (refV (GH h)) c.temps; omega
  have hsub : ∀ b ∈ c.temps.filterMap (refV (GH h)), b ∈ addAll os (c.temps.filterMap (refV (GH h))) := fun b hb => addAll_sub.mpr (.inr hb)
  generalize hos2 : addAll os (c.temps.filterMap (refV (GH h))) = os2 at hK hol2 hsub
  have hos3 : ∃ t, addAll os2 (c.stack.filterMap (refV (GH h))) = os2 ++ t := addAll_pre
  generalize hos4 : addAll os2 (c.stack.filterMap (refV (GH h))) = os3 at hK hos3
  intro _
  (refine fad_of ?_)
  refine E.ld (.head _) rfl ?_
  (refine fad_of ?_)
  refine E.ld (.head _) rfl ?_
  obtain ⟨A1, n1, rfl⟩ := ht.is
  obtain ⟨A2, n2, rfl⟩ := hs.is
  refine bsl_of' rfl rfl rfl (fun b54 w1 e1 hb54 k54 => ?_)
  replace E := E.add e1 hb54 (show Blk w1 b54 [.slice A1 c.temps.length n1, .slice A2 c.stack.length n2] from k54)
  replace Q := Q.ext e1
  replace ht := ht.keepX e1
  replace hs := hs.keepX e1
  replace hx6 := hx6.keepX e1
  refine lenS_of ?_
  refine loop_of (fun m s wx => ∃ (k : Nat) (L' : Lab) (vo' : Value), s = [.pointer (some ⟨bh, 0, none⟩), x2, .pointer (some ⟨bo, 0, none⟩), (.func (.func 122) #[] #[.pointer (some ⟨bh, 0, none⟩), .pointer (some ⟨bp, 0, none⟩), .pointer (some ⟨bo, 0, none⟩)]), x6, .int .i64 i, .pointer (some ⟨b17, 0, none⟩), .slice (some ⟨b54, 0, none⟩) 2 2, .int .i64 (2 : Nat), .int .i64 k] ∧ En noL w0 L' wx ((b54, [.slice A1 c.temps.length n1, .slice A2 c.stack.length n2]) :: (b17, cellsC c (.slice A1 c.temps.length n1) (.slice A2 c.stack.length n2)) :: l) ∧ Sl kCall (Own L') wx [0] outs x6 ∧
      ((k = 0 ∧ m = 2 ∧ VS L' wx bp bo bm os vo' ∧ Sl kPair (Own L') wx [5, 2] c.temps (.slice A1 c.temps.length n1) ∧ Sl kPair (Own L') wx [5, 3] c.stack (.slice A2 c.stack.length n2)) ∨
       (k = 1 ∧ m = 1 ∧ VS L' wx bp bo bm os2 vo' ∧ Sl kPair (Own L') wx [5, 2] (c.temps.map (nameV (GH h) os2)) (.slice A1 c.temps.length n1) ∧ Sl kPair (Own L') wx [5, 3] c.stack (.slice A2 c.stack.length n2)) ∨
       (k = 2 ∧ m = 0 ∧ VS L' wx bp bo bm os3 vo' ∧ Sl kPair (Own L') wx [5, 2] (c.temps.map (nameV (GH h) os2)) (.slice A1 c.temps.length n1) ∧ Sl kPair (Own L') wx [5, 3] (c.stack.map (nameV (GH h) os3)) (.slice A2 c.stack.length n2)))) ?_ (m := 2)
    ⟨0, L, vo, rfl, E, hx6, .inl ⟨rfl, rfl, Q, ht, hs⟩⟩
  clear E Q ht hs hx6
  rintro m s wx Kn' ⟨k, L', vo', rfl, E, hx6, hcase⟩ hKn
  intro _
  simp only [List.headD_cons, List.tail_cons]
  (refine lss_of ?_)
  rcases hcase with ⟨rfl, rfl, Q, ht, hs⟩ | ⟨rfl, rfl, Q, ht, hs⟩ | ⟨rfl, rfl, Q, ht, hs⟩
  · refine condLt_of (fun _ => ?_) (fun h => absurd h (by decide))
    refine ixaS_of (by decide) (by decide) ?_
    refine E.ld (.head _) rfl ?_
    refine lenS_of ?_
    refine view_list E (.tail _ (.tail _ hm)) hc (.inl rfl) hl Q ht htl hint (by omega) (fun w' L2 vo2 E2 c2 Q2 hx2 => ?_)
    rw [hos2] at Q2 hx2
    intro _
    simp only [List.headD_cons, List.tail_cons]
    (refine add_of (by (omega)) (by (omega)) ?_)
    exact hKn 1 _ _ (by omega) ⟨1, L2, vo2, rfl, E2, c2.row Q.lim hx6 (by simp), .inr (.inl ⟨rfl, rfl, Q2, hx2, c2.row Q.lim hs (by simp)⟩)⟩
  · refine condLt_of (fun _ => ?_) (fun h => absurd h (by decide))
    refine ixaS_of (by decide) (by decide) ?_
    refine E.ld (.head _) rfl ?_
    refine lenS_of ?_
    refine view_list E (.tail _ (.tail _ hm)) hc (.inr rfl) hl Q hs hsl hins (by omega) (fun w' L2 vo2 E2 c2 Q2 hx2 => ?_)
    rw [hos4] at Q2 hx2
    intro _
    simp only [List.headD_cons, List.tail_cons]
    (refine add_of (by (omega)) (by (omega)) ?_)
    exact hKn 0 _ _ (by omega) ⟨2, L2, vo2, rfl, E2, c2.row Q.lim hx6 (by simp), .inr (.inr ⟨rfl, rfl, Q2, c2.row Q.lim ht (by simp), hx2⟩)⟩
  · refine condLt_of (fun h => absurd h (by decide)) (fun _ => ?_)
    intro _
    obtain ⟨t, h3⟩ := hos3
    have hnm : c.temps.map (nameV (GH h) os3) = c.temps.map (nameV (GH h) os2) := by rw [h3]; exact names_app hsub
    replace E := E.call (Mut.relab (n := outs.length) Q.lim)
    have ht := ht.relab5 (n := outs.length)
    have hs := hs.relab5 (n := outs.length)
    have hx6 := hx6.relabN (n := outs.length) (by decide)
    replace Q := Q.relab (n := outs.length)
    generalize relab L' outs.length = L3 at E ht hs hx6 Q
    refine E.lds (.tail _ (.head _)) rfl ?_
    refine bsl_of' rfl rfl rfl (fun bc wc ec hbc kc => ?_)
    replace E := E.ext ec
    replace Q := Q.ext ec
    refine grow_one (kd := kCall) (q := [0]) { c with temps := c.temps.map (nameV (GH h) os2), stack := c.stack.map (nameV (GH h) os3) } (by kernel_rfl) (hx6.keepX ec) (show Blk wc bc (cellsC c (.slice A1 c.temps.length n1) (.slice A2 c.stack.length n2)) from kc) ⟨_, _, rfl, ht.keepX ec, hs.keepX ec⟩ rfl (by omega) E.mu.lim (fun v' w' L4 g d e => ?_)
    (refine add_of (by (omega)) (by (omega)) ?_)
    exact hK w' L4 vo' v' (E.grow g).pop.pop (Q.grow g) (by rw [hnm]; exact e)
end Go.PT
namespace Go.PT
structure VM (L : Lab) (w : World) (bv bm : Nat) (m : Mc) (up uo ut us : Value) (ps : List V) (vo : Value) : Prop where
  blk : Blk w bv (machCells m up uo ut us ++ [.map (some bm), vo])
  lv : L bv = some [9]
  map : MapP w bm ps
  lm : L bm = some [8]
  row : Sl kPair (Own L) w [7] ps vo
  lim : Lim L w
section
variable {q : List Nat} {L L' M : Lab} {w w' : World} {bv bm x n : Nat} {m : Mc} {up uo ut us vo : Value} {ps : List V}
theorem VM.ext (V : VM L w bv bm m up uo ut us ps vo) (e : Ext w w') : VM L w' bv bm m up uo ut us ps vo :=
  ⟨V.blk.ext e, V.lv, V.map.keep e (fun h => h), V.lm, V.row.keepX e, V.lim.fr e⟩
theorem VM.drew (V : VM L w bv bm m up uo ut us ps vo) : VM L w.drew bv bm m up uo ut us ps vo := V.ext (Fr.refl _ _).drew
theorem VM.loc (V : VM L w bv bm m up uo ut us ps vo) (e : Loc L w w' x) : VM L w' bv bm m up uo ut us ps vo :=
  ⟨V.blk.fr e.fr (fun h => by have h9 := V.lv; rw [h, e.un] at h9; cases h9), V.lv, V.map.keep e.fr (fun h => by have h9 := V.lm; rw [h, e.un] at h9; cases h9), V.lm, V.row.loc e, V.lim.fr e.fr⟩
theorem VM.other (V : VM L w bv bm m up uo ut us ps vo) (e : Fr (fun y => y = x) w w') (hx : L x = some q) (h7 : ∀ s, [7] ++ s ≠ q) (h8 : q ≠ [8]) (h9 : q ≠ [9]) : VM L w' bv bm m up uo ut us ps vo :=
  ⟨V.blk.other V.lv e hx (fun h => h9 h.symm), V.lv, V.map.keep e (fun h => by have h9 := V.lm; rw [h, hx] at h9; exact h8 (Option.some.inj h9)), V.lm, V.row.other e hx h7, V.lim.fr e⟩
theorem VM.join (V : VM L w bv bm m up uo ut us ps vo) (hm : Lim M w) : VM (joinL L q M) w bv bm m up uo ut us ps vo :=
  ⟨V.blk, joinL_left V.lv, V.map, joinL_left V.lm, V.row.inL, joinL_lim V.lim hm⟩
theorem VM.relab (V : VM L w bv bm m up uo ut us ps vo) : VM (relab L n) w bv bm m up uo ut us ps vo :=
  ⟨V.blk, relab_ne V.lv (by simp), V.map, relab_ne V.lm (by simp), V.row.relabN (by decide), relab_lim V.lim⟩
theorem VM.grow (V : VM L w bv bm m up uo ut us ps vo) (g : Grw [0] L w L' w') : VM L' w' bv bm m up uo ut us ps vo :=
  ⟨V.blk.fr g.fr (fun e => by rw [V.lv] at e; simp at e), g.lx.lab V.lim V.lv, V.map.keep g.fr (fun e => by rw [V.lm] at e; simp at e), g.lx.lab V.lim V.lm, V.row.grow g V.lim (by simp), g.lim⟩
end
attribute [local irreducible] ldT ldsT stT stsT allocT boxT bldT bslT nilT fadT ixaT fldT extT lenT pickT binT notT cviT opT opU condT clT clvT ivT loopT arT ndT World.cell? World.frozen? World.alloc World.drew World.setCell Blk Cells Sl
section
variable {w : World} {m : Mc} {up uo ut us : Value} {R : VW} {p : Pg}
theorem c_toldM {a b : Int} (W : WF m) (V : MachV w m up uo ut us) (B : MB m) (ha : AtM m a b) (hR : ∀ w', Ext w w' → R (.agg #[.int .i64 a, .int .i64 b]) w') : clT PR 117 [.agg (machCells m up uo ut us).toArray, .agg #[.int .i64 a, .int .i64 b]] w R := by
  refine Fimpl_Mach_told.cl ?_
  unfold Fimpl_Mach_told
  have E := En.start w
  refine E.box (fun b1 w1 E _ => ?_)
  refine E.box (fun b2 w2 E _ => ?_)
  refine E.al (fun b3 w3 E _ => ?_)
  (refine fad_of ?_)
  refine E.ld (.tail _ (.head _)) rfl ?_
  (refine lss_of ?_)
  have out : ∀ {w5 : World} {cs : List Value}, En noL w noL w5 [(b3, cs), (b2, [.int .i64 a, .int .i64 b]), (b1, machCells m up uo ut us)] → cs.length = 2 →
      ldsT 2 (.pointer (some ⟨b2, 0, none⟩)) w5 fun t => stsT 2 (.pointer (some ⟨b3, 0, none⟩)) t w5 fun w' => ldsT 2 (.pointer (some ⟨b3, 0, none⟩)) w' fun r => R r w' := by
    intro w5 cs E hcs
    refine E.lds (.tail _ (.head _)) rfl ?_
    refine En.sts' (vs := [.int .i64 a, .int .i64 b]) [] rfl E rfl hcs (by simp [Value.oneCell']) (fun w6 E _ => ?_)
    refine E.lds (.head _) rfl ?_
    exact hR _ E.toExt
  refine condLt_of (fun h => out E rfl) (fun h => ?_)
  have ha2 : 0 ≤ a ∧ a < m.pages.length ∧ 0 ≤ b ∧ b < nF m a := by
    rcases ha with h1 | h1
    · omega
    · exact h1
  replace E := E.drew
  (refine fad_of ?_)
  refine E.ld (.tail _ (.tail _ (.head _))) rfl ?_
  (refine fad_of ?_)
  refine E.ld (.tail _ (.head _)) rfl ?_
  refine pn_ix (V.pages.ext E.toExt) (i := a) ha2.1 ha2.2.1 (fun b' o uf hc hf => ?_)
  replace hf : Sl kFm Any _ [] (pnAt m a).frames uf := hf
  (refine fad_of ?_)
  refine ld_of (hc.at 1 rfl) ?_
  (refine fad_of ?_)
  refine E.ld (.tail _ (.head _)) rfl ?_
  refine fm_ix hf (i := b) ha2.2.2.1 ha2.2.2.2 (fun b'' o2 u2 v2 hc2 hu hv => ?_)
  replace hc2 : Cells _ b'' o2 (cellsF (fmAt m a b) u2 v2) := hc2
  (refine fad_of ?_)
  refine ld_of (hc2.at 2 rfl) ?_
  (refine lss_of ?_)
  refine condLt_of (fun h2 => out E rfl) (fun h2 => ?_)
  refine E.lds (.tail _ (.tail _ (.head _))) rfl ?_
  refine c_placeOf (V.ext E.toExt) B (fun w7 e7 => ?_)
  rw [told_self W ha2.1 ha2.2.1 ha2.2.2.1 ha2.2.2.2 (by omega)]
  replace E := E.ext e7
  refine ext_of rfl ?_
  refine ext_of rfl ?_
  refine E.als (vs := [.int .i64 a, .int .i64 b]) rfl rfl rfl (by simp [Value.oneCell']) (fun b8 w8 E _ => ?_)
  refine E.lds (.head _) rfl ?_
  refine En.sts' (vs := [.int .i64 a, .int .i64 b]) [_] rfl E rfl rfl (by simp [Value.oneCell']) (fun w6 E _ => ?_)
  refine E.lds (.tail _ (.head _)) rfl ?_
  exact hR _ E.toExt
theorem c_calledBy {a b : Int} (W : WF m) (V : MachV w m up uo ut us) (B : MB m) (ha : AtM m a b) (hR : ∀ w', Ext w w' → R (.tuple #[.agg #[.int .i64 (byOf m a b).1, .int .i64 (byOf m a b).2.1], .bool (byOf m a b).2.2.1]) w') : clT PR 119 [.agg (machCells m up uo ut us).toArray, .agg #[.int .i64 a, .int .i64 b]] w R := by
  refine Fimpl_Mach_calledBy.cl ?_
  unfold Fimpl_Mach_calledBy
  have E := En.start w
  refine E.box (fun b1 w1 E _ => ?_)
  refine E.box (fun b2 w2 E _ => ?_)
  refine E.al (fun b3 w3 E _ => ?_)
  (refine fad_of ?_)
  refine E.ld (.tail _ (.head _)) rfl ?_
  (refine geq_of ?_)
  refine condGe_of (fun h => ?_) (fun h => ?_)
  · have ha2 : 0 ≤ a ∧ a < m.pages.length ∧ 0 ≤ b ∧ b < nF m a := by
      rcases ha with h1 | h1
      · omega
      · exact h1
    (refine fad_of ?_)
    refine E.ld (.tail _ (.head _)) rfl ?_
    (refine gtr_of ?_)
    refine condGt_of (fun h2 => ?_) (fun h2 => ?_)
    · have hb : byOf m a b = (a, b - 1, true, true) := by unfold byOf; rw [if_pos ⟨h, h2⟩]
      rw [hb] at hR
      have hbl := B.frames a
      have hbl2 : b ≤ 2097152 := by have := ha2.2.2.2; unfold nF at this; omega
      refine E.lds (.tail _ (.tail _ (.head _))) rfl ?_
      (refine fad_of ?_)
      refine E.ld (.tail _ (.head _)) rfl ?_
      (refine fad_of ?_)
      refine E.ld (.tail _ (.head _)) rfl ?_
      (refine sub_of (by (omega)) (by (omega)) ?_)
      refine bld_of (cs := #[.int .i64 a, .int .i64 (b - 1)]) rfl ?_
      refine c_toldM W (V.ext E.toExt) B (.inr ⟨ha2.1, ha2.2.1, by omega, by omega⟩) (fun w4 e4 => ?_)
      replace E := E.ext e4
      refine En.sts' (vs := [.int .i64 a, .int .i64 (b - 1)]) [] rfl E rfl rfl (by simp [Value.oneCell']) (fun w5 E _ => ?_)
      refine E.lds (.head _) rfl ?_
      exact hR _ E.toExt
    · refine E.lds (.tail _ (.tail _ (.head _))) rfl ?_
      refine E.lds (.tail _ (.head _)) rfl ?_
      refine c_caller (V.ext E.toExt) B ha (fun w4 e4 => ?_)
      replace E := E.ext e4
      refine ext_of rfl ?_
      refine ext_of rfl ?_
      refine ext_of rfl ?_
      refine E.als (vs := [.int .i64 (byOf m a b).1, .int .i64 (byOf m a b).2.1]) rfl rfl rfl (by simp [Value.oneCell']) (fun b8 w8 E _ => ?_)
      refine E.lds (.head _) rfl ?_
      refine En.sts' (vs := [.int .i64 (byOf m a b).1, .int .i64 (byOf m a b).2.1]) [_] rfl E rfl rfl (by simp [Value.oneCell']) (fun w6 E _ => ?_)
      refine E.lds (.tail _ (.head _)) rfl ?_
      exact hR _ E.toExt
  · refine E.lds (.tail _ (.tail _ (.head _))) rfl ?_
    refine E.lds (.tail _ (.head _)) rfl ?_
    refine c_caller (V.ext E.toExt) B ha (fun w4 e4 => ?_)
    replace E := E.ext e4
    refine ext_of rfl ?_
    refine ext_of rfl ?_
    refine ext_of rfl ?_
    refine E.als (vs := [.int .i64 (byOf m a b).1, .int .i64 (byOf m a b).2.1]) rfl rfl rfl (by simp [Value.oneCell']) (fun b8 w8 E _ => ?_)
    refine E.lds (.head _) rfl ?_
    refine En.sts' (vs := [.int .i64 (byOf m a b).1, .int .i64 (byOf m a b).2.1]) [_] rfl E rfl rfl (by simp [Value.oneCell']) (fun w6 E _ => ?_)
    refine E.lds (.tail _ (.head _)) rfl ?_
    exact hR _ E.toExt
theorem c_seeM {L : Lab} {bv bm : Nat} {ps : List V} {vo : Value} {n : V} (Q : VM L w bv bm m up uo ut us ps vo) (hol : ps.length ≤ 1000000)
    (hR : ∀ w' L' vo', Chg [7] L w L' w' → VM L' w' bv bm m up uo ut us (add1 ps n) vo' → R (.int .i64 (ixV (add1 ps n) n : Nat)) w') :
    clT PR 116 [.pointer (some ⟨bv, 0, none⟩), .agg #[.int .i64 n.1, .int .i64 n.2]] w R := by
  refine Fimpl_viewer_see.cl ?_
  unfold Fimpl_viewer_see
  refine box_of' (fun b3 w1 e1 hb3 k3 => ?_)
  replace k3 : Blk w1 b3 [.int .i64 n.1, .int .i64 n.2] := k3
  have hl0 := Q.lim
  have hmt := Q.map.lt
  replace Q := (Q.ext e1).drew
  replace k3 := k3.ext (Fr.refl _ _).drew
  have e1 : Ext w w1.drew := e1.trans (Fr.refl _ _).drew
  (refine nil_of ?_)
  (refine fad_of ?_)
  refine ld_of (Q.blk.cell rfl) ?_
  refine lds_of k3.cells rfl ?_
  refine lookP_of (by kernel_rfl) Q.map ?_
  refine ext_of rfl ?_
  refine ext_of rfl ?_
  (refine not_of ?_)
  refine condN_of (fun hn => ?_) (fun hn => ?_)
  · have hn : n ∉ ps := of_decide_eq_false hn
    have ha : add1 ps n = ps ++ [n] := by unfold add1; rw [if_neg hn]
    (refine nil_of ?_)
    (refine fad_of ?_)
    refine ld_of (Q.blk.cell rfl) ?_
    refine Q.row.len_of ?_
    replace Q := Q.drew
    replace k3 := k3.ext (Fr.refl _ _).drew
    have e2 : Ext w w1.drew.drew := e1.trans (Fr.refl _ _).drew
    clear e1
    (refine nil_of ?_)
    (refine fad_of ?_)
    refine ld_of (Q.blk.cell rfl) ?_
    refine lds_of k3.cells rfl ?_
    refine updP_of (by kernel_rfl) Q.map hn (fun w3 e3 m3 => ?_)
    have hne : b3 ≠ bm := fun h => by omega
    have row3 := Q.row.other e3 Q.lm (by simp)
    have blk3 := Q.blk.other Q.lv e3 Q.lm (by simp)
    have lim3 := Q.lim.fr e3
    replace k3 := k3.fr e3 hne
    have ed := (Fr.refl No w3).drew
    replace row3 := row3.keepX (w' := w3.drew) ed
    replace blk3 := blk3.ext (w' := w3.drew) ed
    replace lim3 := lim3.fr (w' := w3.drew) ed
    replace k3 := k3.ext (w' := w3.drew) ed
    replace m3 := m3.keep ed (fun h => h)
    (refine nil_of ?_)
    (refine fad_of ?_)
    refine ld_of (blk3.cell rfl) ?_
    refine lds_of k3.cells rfl ?_
    refine bsl_of' rfl rfl rfl (fun b4 w4 e4 hb4 k4 => ?_)
    have m4 := m3.keep e4 (fun h => h)
    refine ⟨ld_of ((blk3.ext e4).cell rfl) rfl, ?_⟩
    refine grow_lit [n] (by kernel_rfl) (row3.keepX e4) (show Blk w4 b4 [.int .i64 n.1, .int .i64 n.2] from k4) rfl (by simp; omega) (lim3.fr e4) (fun v5 w5 L5 g _ h5 => ?_)
    have lim4 := lim3.fr e4
    have lv5 := g.lx.lab lim4 Q.lv
    have lm5 := g.lx.lab lim4 Q.lm
    have blk5 : Blk w5 bv (machCells m up uo ut us ++ [.map (some bm), vo]) := (blk3.ext e4).fr g.fr (fun e => by rw [Q.lv] at e; simp at e)
    have m5 : MapP w5 bm (ps ++ [n]) := m4.keep g.fr (fun e => by rw [Q.lm] at e; simp at e)
    (refine nil_of ?_)
    (refine fad_of ?_)
    refine st_of' blk5 (by simp [machCells]) h5.one (fun w6 e6 k6 => ?_)
    have hi : ixV (add1 ps n) n = ps.length := by rw [ha]; exact ixV_new hn
    rw [← hi]
    refine hR w6 L5 v5 ⟨?_, fun b => ?_, g.lim.fr e6⟩ ⟨k6, lv5, ?_, lm5, ?_, g.lim.fr e6⟩
    · refine (Ext.fr e2).trans ((e3.to (fun b _ h => ?_)).trans ((Ext.fr ed).trans ((Ext.fr e4).trans ((g.fr.to (fun b _ h => .inl h)).trans (e6.to (fun b _ h => ?_))))))
      · rw [h]; exact .inr (.inl Q.lm)
      · rw [h]; exact .inr (.inr (.inl Q.lv))
    · rcases g.lx b with h | ⟨h, k⟩
      · exact .inl h
      · have := e2.size; have := e3.size; have := ed.size; have := e4.size
        exact .inr ⟨by omega, k⟩
    · rw [ha]
      exact m5.keep e6 (fun h => by rw [h, lv5] at lm5; simp at lm5)
    · rw [ha]
      exact h5.other e6 lv5 (by simp)
  · have hn : n ∈ ps := of_decide_eq_true hn
    have ha : add1 ps n = ps := by unfold add1; rw [if_pos hn]
    rw [if_pos hn, ixV_eq]
    have := hR _ L vo ((Chg.refl (q := [7]) hl0).ext e1) (by rw [ha]; exact Q)
    rwa [ha] at this
end
end Go.PT
namespace Go.PT
structure KV (q : List Nat) (L : Lab) (w : World) (L' : Lab) (w' : World) : Prop where
  fr : Fr (fun b => L b = some [7] ∨ L b = some [8] ∨ L b = some [9] ∨ L b = some q) w w'
  lab : ∀ b r, L b = some r → L' b = some r
  un : ∀ b, b < w.heap.size → L b = none → L' b = none
  lim : Lim L' w'
section
variable {α : Type} {q r : List Nat} {L L' L'' M : Lab} {w w' w'' : World}
theorem KV.join (e : Ext w w') (hl : Lim L w) (hb : Born w M) (hm : Lim M w') : KV q L w (joinL L q M) w' :=
  ⟨e.to (fun _ _ h => h.elim), fun b r h => joinL_left h, fun b hb' hn => by
    have := (Mut.join (q := q) e hl hb hm).un b hb' hn
    exact this, joinL_lim (hl.fr e) hm⟩
theorem KV.chg (k : KV q L w L' w') (c : Chg q L' w' L'' w'') : KV q L w L'' w'' := by
  have old : ∀ b r, b < w.heap.size → L' b = some r → L b = some r := fun b r hb h => by
    cases e : L b with
    | none => rw [k.un b hb e] at h; cases h
    | some r' => rw [k.lab b r' e] at h; exact h
  refine ⟨k.fr.trans' c.fr (fun _ _ h => h) (fun x hx h => ?_), fun b r h => ?_, fun b hb hn => ?_, c.lim⟩
  · rcases h with h | h | h | h
    · exact .inl (old x _ hx h)
    · exact .inr (.inl (old x _ hx h))
    · exact .inr (.inr (.inl (old x _ hx h)))
    · exact .inr (.inr (.inr (old x _ hx h)))
  · have := k.lab b r h
    exact c.lx.lab k.lim this
  · rw [c.lx.old (Nat.lt_of_lt_of_le hb k.fr.size)]; exact k.un b hb hn
theorem KV.row {kd : Kd α} {xs : List α} {v : Value} (k : KV q L w L' w') (h : Sl kd (Own L) w r xs v) (hr : ∀ s, r ++ s ≠ [7] ∧ r ++ s ≠ [8] ∧ r ++ s ≠ [9] ∧ r ++ s ≠ q) : Sl kd (Own L') w' r xs v :=
  h.own k.fr (fun x s hb => ⟨fun e => by
    rw [hb] at e
    obtain ⟨h1, h2, h3, h4⟩ := hr s
    rcases e with e | e | e | e
    · exact h1 (Option.some.inj e)
    · exact h2 (Option.some.inj e)
    · exact h3 (Option.some.inj e)
    · exact h4 (Option.some.inj e), k.lab x _ hb⟩)
end
theorem Chg.locE {q : List Nat} {L L' : Lab} {w w' w'' : World} {x : Nat} (c : Chg q L w L' w') (e : Fr (fun y => y = x) w' w'') (hx : w.heap.size ≤ x) : Chg q L w L' w'' :=
  ⟨c.fr.trans' e (fun _ _ h => h) (fun y hy h => by omega), c.lx, c.lim.fr e⟩
attribute [local irreducible] ldT ldsT stT stsT allocT boxT bldT bslT nilT fadT ixaT fldT extT lenT pickT binT notT cviT opT opU condT clT clvT ivT loopT arT ndT World.cell? World.frozen? World.alloc World.drew World.setCell Blk Cells Sl
theorem c_valsM {L : Lab} {w0 w : World} {l : List (Nat × List Value)} {m : Mc} {bv bm : Nat} {ps : List V} {vo up uo ut us vx : Value} {q : List Nat} {xs : List V} {R : VW} {p : Pg}
    (E : En noL w0 L w l) (Mk : MOK p m) (hV : MachV w0 m up uo ut us) (B : MB m) (hq : q = [5, 2] ∨ q = [5, 3]) (Q : VM L w bv bm m up uo ut us ps vo) (hx : Sl kPair Any w [] xs vx) (hxl : xs.length ≤ 1000) (hin : ∀ v ∈ xs, v.1 = 2 → 0 ≤ v.2 ∧ v.2 < m.twins.length) (hol : ps.length + xs.length ≤ 1000000)
    (hR : ∀ w' L' vo' v', En noL w0 L' w' l → KV q L w L' w' → VM L' w' bv bm m up uo ut us (addAll ps (xs.filterMap (refV (GP m)))) vo' → Sl kPair (Own L') w' q (xs.map (nameV (GP m) (addAll ps (xs.filterMap (refV (GP m)))))) v' → R v' w') :
    clT PR 120 [.pointer (some ⟨bv, 0, none⟩), vx] w R := by
  refine Fimpl_viewer_vals.cl ?_
  unfold Fimpl_viewer_vals
  have hrow : ∀ s, q ++ s ≠ [7] ∧ q ++ s ≠ [8] ∧ q ++ s ≠ [9] := by rcases hq with rfl | rfl <;> simp
  have h6 : q ≠ [8] ∧ q ≠ [9] ∧ ∀ s, [7] ++ s ≠ q := by rcases hq with rfl | rfl <;> simp
  refine c_clone hx (by omega) (fun w1 v1 M e1 hb1 hl1 h1 => ?_)
  have K1 : KV q L w (joinL L q M) w1 := KV.join e1 Q.lim hb1 hl1
  have g1 := h1.inR (q := q) (apart_of Q.lim hb1)
  rw [List.append_nil] at g1
  have E1 := E.join q e1 hb1 hl1
  clear E
  replace Q := (Q.ext e1).join (q := q) hl1
  clear h1 hx
  generalize joinL L q M = L1 at K1 g1 E1 Q
  have E := En.init Q.lim
  refine g1.len_of ?_
  refine loop_of (fun n s wx => ∃ (ys zs : List V) (L' : Lab) (vo' : Value), s = [.pointer (some ⟨bv, 0, none⟩), .slice none 0 0, v1, v1, .int .i64 xs.length, .int .i64 ys.length] ∧ xs = ys ++ zs ∧ En L1 w1 L' wx [] ∧ Chg q L1 w1 L' wx ∧ VM L' wx bv bm m up uo ut us (addAll ps (ys.filterMap (refV (GP m)))) vo' ∧ Sl kPair (Own L') wx q (ys.map (nameV (GP m) (addAll ps (ys.filterMap (refV (GP m))))) ++ zs) v1 ∧ n = zs.length) ?_ (m := xs.length)
    ⟨[], xs, L1, vo, rfl, rfl, E, Chg.refl Q.lim, by simpa [addAll] using Q, by simpa using g1, rfl⟩
  clear E Q g1
  rintro n s wx Kn ⟨ys, zs, L', vo', rfl, hxs, E, c, Q, hx, hmm⟩ hKn
  intro _
  simp only [List.headD_cons, List.tail_cons]
  have hlen : xs.length = ys.length + zs.length := by rw [hxs, List.length_append]
  (refine lss_of ?_)
  refine condLt_of (fun hi => ?_) (fun hi => ?_)
  · cases zs with
    | nil => exfalso; simp at hlen; omega
    | cons v zs =>
    have hin2 := hin v (by rw [hxs]; simp)
    have hol2 : (addAll ps (ys.filterMap (refV (GP m)))).length ≤ 1000000 := by have h1 := addAll_len (l := ys.filterMap (refV (GP m))) (out := ps); have h2 := List.length_filterMap_le (refV (GP m)) ys; omega
    have hys : ∀ b ∈ ys.filterMap (refV (GP m)), b ∈ addAll ps (ys.filterMap (refV (GP m))) := fun b hb => addAll_sub.mpr (.inr hb)
    have hnext : addAll ps ((ys ++ [v]).filterMap (refV (GP m))) = if v.1 = 2 then add1 (addAll ps (ys.filterMap (refV (GP m)))) ((GP m).rf v.2) else addAll ps (ys.filterMap (refV (GP m))) := by
      rw [List.filterMap_append, addAll_app]
      by_cases h2 : v.1 = 2
      · rw [if_pos h2, List.filterMap_cons_some (refV_of h2)]; rfl
      · rw [if_neg h2, List.filterMap_cons_none (refV_not h2)]; rfl
    generalize addAll ps (ys.filterMap (refV (GP m))) = os1 at Q hx hys hnext hol2
    have hlr : (ys.map (nameV (GP m) os1) ++ v :: zs).length = xs.length := by rw [hlen]; simp
    have hat : (ys.map (nameV (GP m) os1) ++ v :: zs)[ys.length]? = some v := by rw [List.getElem?_append_right (by simp)]; simp
    refine pair_ix (hx.any (q := [])) (by omega) (by omega) (fun b o hcell => ?_)
    have hpv : pairAt (ys.map (nameV (GP m) os1) ++ v :: zs) ys.length = v := by
      unfold pairAt
      rw [Int.toNat_natCast, List.getD_eq_getElem?_getD, hat]; rfl
    rw [hpv] at hcell
    refine lds_of hcell rfl ?_
    refine E.als (vs := [.int .i64 v.1, .int .i64 v.2]) rfl rfl rfl (by simp [Value.oneCell']) (fun bt w3 E e3 => ?_)
    replace Q := Q.ext e3
    replace hx := hx.keepX e3
    replace c := c.ext e3
    (refine fad_of ?_)
    refine E.ld (.head _) rfl ?_
    (refine neq_of ?_)
    refine condNe_of (fun h2 => ?_) (fun h2 => ?_)
    · rw [if_neg h2] at hnext
      (refine add_of (by (omega)) (by (omega)) ?_)
      refine hKn zs.length _ _ (by rw [hmm]; simp) ⟨ys ++ [v], zs, L', vo', ?_, by rw [hxs, List.append_assoc]; rfl, E.pop, c, by rw [hnext]; exact Q, ?_, rfl⟩
      · simp
      · have e2 : nameV (GP m) os1 v = v := by unfold nameV; rw [if_neg h2]
        rw [hnext, List.map_append, List.map_cons, List.map_nil, e2, List.append_assoc]
        exact hx
    · rw [if_pos h2] at hnext
      obtain ⟨n0, n1⟩ := hin2 h2
      have ed := (Fr.refl No w3).drew
      replace E := E.drew
      replace Q := Q.drew
      replace hx := hx.keepX (w' := w3.drew) ed
      replace c := c.ext ed
      (refine nil_of ?_)
      (refine fad_of ?_)
      refine lds_of (cs := machCells m up uo ut us) ((Q.blk.cells).part 0 8 rfl) rfl ?_
      (refine fad_of ?_)
      refine E.ld (.head _) rfl ?_
      refine E.ar1 (l0 := [(bt, [.int .i64 v.1, .int .i64 v.2])]) (.inl ⟨rfl, rfl⟩) (fun w4 s4 l4 E e4 S => ?_)
      replace Q := Q.ext e4
      replace hx := hx.keepX e4
      replace c := c.ext e4
      refine c_placeOf (hV.ext (E1.call E.mu).toExt) B (fun w5 e5 => ?_)
      replace E := E.ext e5
      replace Q := Q.ext e5
      replace hx := hx.keepX e5
      replace c := c.ext e5
      refine ext_of rfl ?_
      refine ext_of rfl ?_
      refine E.ar1 S (fun w6 s6 l6 E e6 S => ?_)
      replace Q := Q.ext e6
      replace hx := hx.keepX e6
      replace c := c.ext e6
      refine S.nd (fun b9 h9 l9 => ?_)
      subst h9 l9
      refine En.sts' (vs := [.int .i64 (plcOf m v.2).1, .int .i64 (plcOf m v.2).2.1]) [] rfl E rfl rfl (by simp [Value.oneCell']) (fun w10 E e10 => ?_)
      replace Q := Q.loc e10
      replace hx := hx.loc e10
      replace c := c.locE e10.fr (E.loc (b9, _) (.head _)).2
      refine ar_some ?_
      refine nd_some ?_
      refine ar_some ?_
      refine nd_some ?_
      refine E.lds (.head _) rfl ?_
      refine c_seeM (n := ((plcOf m v.2).1, (plcOf m v.2).2.1)) Q hol2 (fun w2 L2 vo2 c2 Q2 => ?_)
      have hrf : ((plcOf m v.2).1, (plcOf m v.2).2.1) = (GP m).rf v.2 := rfl
      rw [hrf] at Q2 ⊢
      have hx2 := c2.row Q.lim hx (fun s => ⟨(hrow s).1, (hrow s).2.1, (hrow s).2.2, (hrow s).1⟩)
      replace E := (E.call c2.mu).pop.pop
      replace c := c.trans c2.weak
      rw [← hnext] at Q2
      generalize hix : (ixV (add1 os1 ((GP m).rf v.2)) ((GP m).rf v.2) : Int) = ix
      refine hx2.ixo_of rfl (by omega) (by omega) (fun x b o es mm hxx ha ho hK2 hc4 => ?_)
      rw [Int.toNat_natCast] at ha
      (refine fad_of ?_)
      obtain ⟨hl4, w3, p1, p2, p3, p4⟩ := hx2.puts (vs := [.int .i64 ix]) (off := 1) ha (by omega) (by simp [kPair, Kd.flat]) (by simp [Value.oneCell'])
      refine st_of_stN p1 ?_
      have hT := p4 (v.1, ix) (fun es k1 k2 => by
        have e9 : (ys.map (nameV (GP m) os1) ++ v :: zs)[ys.length]'(by omega) = v := by
          have := List.getElem?_eq_getElem (l := ys.map (nameV (GP m) os1) ++ v :: zs) (i := ys.length) (by omega)
          rw [hat] at this
          exact (Option.some.inj this).symm
        have : es = [.int .i64 ((ys.map (nameV (GP m) os1) ++ v :: zs)[ys.length]'(by omega)).1, .int .i64 ((ys.map (nameV (GP m) os1) ++ v :: zs)[ys.length]'(by omega)).2] := k1
        rw [e9] at this
        subst this
        rfl)
      obtain ⟨t, ht⟩ : ∃ t, add1 os1 ((GP m).rf v.2) = os1 ++ t := add1_pre
      have hrow2 : (ys.map (nameV (GP m) os1) ++ v :: zs).set ys.length (v.1, ix) = (ys ++ [v]).map (nameV (GP m) (addAll ps ((ys ++ [v]).filterMap (refV (GP m))))) ++ zs := by
        have e1 : (ys.map (nameV (GP m) os1) ++ v :: zs).set ys.length (v.1, ix) = ys.map (nameV (GP m) os1) ++ (v.1, ix) :: zs := by
          rw [List.set_append_right _ _ (by simp)]
          simp
        have e2 : nameV (GP m) (add1 os1 ((GP m).rf v.2)) v = (v.1, ix) := by unfold nameV; rw [if_pos h2, ← hix]; rfl
        rw [e1, hnext, List.map_append, List.map_cons, List.map_nil, e2, ht, names_app hys, List.append_assoc]; rfl
      rw [hrow2] at hT
      (refine add_of (by (omega)) (by (omega)) ?_)
      refine hKn zs.length _ _ (by rw [hmm]; simp) ⟨ys ++ [v], zs, L2, vo2, ?_, by rw [hxs, List.append_assoc]; rfl, E.call (Mut.at p2 hl4 Q2.lim), c.trans (Chg.at p2 hl4 Q2.lim), Q2.other p2 hl4 h6.2.2 h6.1 h6.2.1, hT, rfl⟩
      simp
  · have hz : zs = [] := by
      cases zs with
      | nil => rfl
      | cons z zs => exfalso; rw [List.length_cons] at hlen; omega
    subst hz
    rw [List.append_nil] at hxs hx
    subst hxs
    intro _
    exact hR wx L' vo' v1 (E1.call E.mu) (K1.chg c) Q hx
end Go.PT
namespace Go.PT
attribute [local irreducible] ldT ldsT stT stsT allocT boxT bldT bslT nilT fadT ixaT fldT extT lenT pickT binT notT cviT opT opU condT clT clvT ivT loopT arT ndT World.cell? World.frozen? World.alloc World.drew World.setCell Blk Cells Sl
theorem c_viewEnd {h : Hp} {uc us : Value} {w : World} {R : VW} (hc : Sl kCall Any w [] h.calls uc) (hl : h.calls.length ≤ 1073741824) (hn : h.now < 0) (hR : ∀ w', Ext w w' → R (.slice none 0 0) w') : clT PR 40 [.agg (heapCells h uc us).toArray] w R := by
  refine Fimpl_HeapView.cl ?_
  unfold Fimpl_HeapView
  have E := En.start w
  refine E.box (fun b1 w1 E _ => ?_)
  (refine fad_of ?_)
  refine E.ld (.head _) rfl ?_
  (refine fad_of ?_)
  refine E.ld (.head _) rfl ?_
  refine (E.any (q := []) hc).len_of ?_
  (refine sub_of (by (omega)) (by (omega)) ?_)
  refine c_implIn ?_
  rw [inB_f (by omega)]
  (refine not_of ?_)
  refine condN_of (fun _ => ?_) (fun h => absurd h (by decide))
  exact hR _ E.toExt
end Go.PT
namespace Go.PT
theorem take_app {α : Type} {l t : List α} {i : Nat} (h : i ≤ l.length) : (l ++ t).take i = l.take i := by rw [List.take_append]; simp [Nat.sub_eq_zero_of_le h]
theorem take_one {α : Type} {l : List α} {i : Nat} {a : α} (h : l[i]? = some a) : l.take (i + 1) = l.take i ++ [a] := by
  rw [List.take_add_one, h]; rfl
attribute [local irreducible] ldT ldsT stT stsT allocT boxT bldT bslT nilT fadT ixaT fldT extT lenT pickT binT notT cviT opT opU condT clT clvT ivT loopT arT ndT World.cell? World.frozen? World.alloc World.drew World.setCell Blk Cells Sl
theorem c_heapView {p : Pg} {h : Hp} {uc us : Value} {w : World} {R : VW} (H : HOK p h) (hh : HeapV w h uc us) (hR : ∀ w' v, Ext w w' → Sl kCall (Bet 0 w.heap.size w'.heap.size) w' [] (viewN h) v → R v w') : clT PR 40 [.agg (heapCells h uc us).toArray] w R := by
  have hn1 := H.now2
  have hsz := H.size
  have hb2 := H.born2
  have hcl : h.calls.length ≤ 30 := by omega
  by_cases hneg : h.now < 0
  · refine c_viewEnd hh.calls hh.n hneg (fun w' e => hR w' _ e ?_)
    have : viewN h = [] := by unfold viewN view found; rw [show (GH h).now = none from if_pos hneg]; rfl
    rw [this]
    exact Sl.nil _ _ _ _
  have h0 : 0 ≤ h.now := by omega
  have hF := found_len (fin_heap H) h.calls.length
  rw [allI_len] at hF
  have hF2 : found (GH h) h.calls.length = bfs (GH h) h.calls.length 0 [h.now] := by unfold found; rw [show (GH h).now = some h.now from if_neg hneg]
  have hview : viewN h = (found (GH h) h.calls.length).map (seen (GH h) (found (GH h) h.calls.length)) := rfl
  rw [hF2] at hview hF
  rw [hview] at hR
  clear hview hF2
  generalize hFF : bfs (GH h) h.calls.length 0 [h.now] = F at hR hF
  have hc0 := hh.calls
  have hs0 := hh.said
  refine Fimpl_HeapView.cl ?_
  unfold Fimpl_HeapView
  have E := En.start w
  refine E.box (fun bh w1 E _ => ?_)
  (refine fad_of ?_)
  refine E.ld (.head _) rfl ?_
  (refine fad_of ?_)
  refine E.ld (.head _) rfl ?_
  refine (E.any (q := []) hc0).len_of ?_
  (refine sub_of (by (omega)) (by (omega)) ?_)
  refine c_implIn ?_
  rw [inB_t (by omega) (by omega)]
  (refine not_of ?_)
  refine condN_of (fun h => by cases h) (fun _ => ?_)
  have hm : (bh, heapCells h uc us) ∈ [(bh, heapCells h uc us)] := .head _
  refine mkm_of (fun bm w2 e2 hb2 m2 => ?_)
  replace E := E.join [] e2 (lab1_born (p := [8]) hb2) (lab1_lim (p := [8]) m2.lt)
  have lm : joinL noL [] (lab1 bm [8]) bm = some [8] := joinL_right (by simp [lab1]) rfl
  generalize joinL noL [] (lab1 bm [8]) = L2 at E lm
  refine al_of' (fun bp w3 e3 hb3 k3 => ?_)
  have hap := apart_of E.mu.lim (lab1_born (p := [6]) hb3)
  replace E := E.join [] e3 (lab1_born (p := [6]) hb3) (lab1_lim (p := [6]) k3.lt)
  have lp : joinL L2 [] (lab1 bp [6]) bp = some [6] := joinL_right (by simp [lab1]) (hap bp [6] (by simp [lab1]))
  replace lm : joinL L2 [] (lab1 bp [6]) bm = some [8] := joinL_left lm
  replace m2 := m2.keep e3 (fun h => h)
  generalize joinL L2 [] (lab1 bp [6]) = L3 at E lm lp
  refine st_of' k3 (by simp) rfl (fun w4 e4 k4 => ?_)
  replace E := E.call (Mut.at e4 lp E.mu.lim)
  replace m2 := m2.keep e4 (fun h => by rw [h, lp] at lm; simp at lm)
  refine al_of' (fun bo w5 e5 hb5 k5 => ?_)
  have hap5 := apart_of E.mu.lim (lab1_born (p := [9]) hb5)
  replace E := E.join [] e5 (lab1_born (p := [9]) hb5) (lab1_lim (p := [9]) k5.lt)
  have lo : joinL L3 [] (lab1 bo [9]) bo = some [9] := joinL_right (by simp [lab1]) (hap5 bo [9] (by simp [lab1]))
  replace lm : joinL L3 [] (lab1 bo [9]) bm = some [8] := joinL_left lm
  replace lp : joinL L3 [] (lab1 bo [9]) bp = some [6] := joinL_left lp
  generalize joinL L3 [] (lab1 bo [9]) = L5 at E lm lp lo
  have Q : VS L5 w5 bp bo bm [] (.slice none 0 0) := ⟨k4.ext e5, lp, m2.keep e5 (fun h => h), lm, k5, lo, Sl.none0, E.mu.lim⟩
  clear hap hap5 k3 k4 k5 m2
  (refine fad_of ?_)
  refine E.ld (.head _) rfl ?_
  refine clv_of (by kernel_rfl) rfl ?_
  refine c_see Q (E.blk hm) (hc0.ext E.toExt) hh.n h0 hn1 (by simp) (fun w6 L6 vo6 c6 Q6 => ?_)
  replace E := E.call c6.mu
  have hadd : add1 [] h.now = [h.now] := rfl
  rw [hadd] at Q6
  clear Q
  refine loop_of (fun m s wx => ∃ (i : Nat) (L : Lab) (os : List Int) (vo vout : Value), s = [.pointer (some ⟨bh, 0, none⟩), .slice none 0 0, .pointer (some ⟨bo, 0, none⟩), (.func (.func 122) #[] #[.pointer (some ⟨bh, 0, none⟩), .pointer (some ⟨bp, 0, none⟩), .pointer (some ⟨bo, 0, none⟩)]), vout, .int .i64 i] ∧ En noL w L wx [(bh, heapCells h uc us)] ∧ VS L wx bp bo bm os vo ∧ Sl kCall (Own L) wx [0] ((os.take i).map (seen (GH h) os)) vout ∧ i ≤ os.length ∧ (∀ a ∈ os.take i, ∀ b ∈ refs (GH h) a, b ∈ os) ∧ (∀ a ∈ os, a ∈ allI h.calls.length) ∧ bfs (GH h) m i os = F ∧ i + m = h.calls.length) ?_ (m := h.calls.length)
    ⟨0, L6, [h.now], vo6, .slice none 0 0, rfl, E, Q6, Sl.none0, by simp, by simp, fun a ha => by rw [List.mem_singleton] at ha; subst ha; exact mem_allI.mpr ⟨h0, hn1⟩, hFF, by omega⟩
  clear E Q6 c6
  rintro m s wx Kn ⟨i, L, os, vo, vout, rfl, E, Q, hout, hi, hcl2, hos, hb, him⟩ hKn
  intro _
  simp only [List.headD_cons, List.tail_cons]
  obtain ⟨tF, htF⟩ := bfs_pre (GH h) m i os
  have hol : os.length ≤ 30 := by rw [hb] at htF; have := congrArg List.length htF; rw [List.length_append] at this; omega
  refine ld_of (Q.ord.cell rfl) ?_
  refine Q.row.len_of ?_
  (refine lss_of ?_)
  refine condLt_of (fun hlt => ?_) (fun hge => ?_)
  · have hlt' : i < os.length := by omega
    obtain ⟨a, ha⟩ : ∃ a, os[i]? = some a := ⟨os[i], List.getElem?_eq_getElem hlt'⟩
    have hain := hos a (List.mem_of_getElem? ha)
    obtain ⟨a0, a1⟩ := mem_allI.mp hain
    have hia : intAt os i = a := by unfold intAt; rw [Int.toNat_natCast, List.getD_eq_getElem?_getD, ha]; rfl
    obtain ⟨m', rfl⟩ : ∃ m', m = m' + 1 := by
      cases m with
      | zero =>
        exfalso
        have h1 : bfs (GH h) 0 i os = os := rfl
        rw [h1] at hb
        have h3 : os.length ≤ h.calls.length := by rw [hb]; exact hF.2.2
        omega
      | succ m' => exact ⟨m', rfl⟩
    have hb' : bfs (GH h) m' (i + 1) (addAll os (refs (GH h) a)) = F := by
      rw [← hb]
      conv => rhs; unfold bfs
      rw [ha]
    have F3 := H.at a0 a1
    have hmeth := methOk_iff.mp (prog_meth H.prog F3.m0 F3.m1)
    have ht1 := F3.temps
    have ht2 := hmeth.t1
    have ht3 := F3.stack
    have hrefs := (fin_heap H).refs a hain
    have hrt : (GH h).temps a = (callAt h.calls a).temps := rfl
    have hrs : (GH h).stack a = (callAt h.calls a).stack := rfl
    have hcase : ((callAt h.calls a).sender < 0 ∧ (GH h).sender a = none) ∨ (0 ≤ (callAt h.calls a).sender ∧ (GH h).sender a = some (callAt h.calls a).sender) := by
      by_cases e : (callAt h.calls a).sender < 0
      · exact .inl ⟨e, if_pos e⟩
      · exact .inr ⟨by omega, if_neg e⟩
    have hvt : ∀ v ∈ (callAt h.calls a).temps, v.1 = 2 → 0 ≤ v.2 ∧ v.2 < h.calls.length := fun v hv e => by
      refine mem_allI.mp (hrefs v.2 ?_)
      unfold refs
      refine List.mem_append.mpr (.inr (List.mem_append.mpr (.inl (List.mem_filterMap.mpr ⟨v, hv, refV_of e⟩))))
    have hvs : ∀ v ∈ (callAt h.calls a).stack, v.1 = 2 → 0 ≤ v.2 ∧ v.2 < h.calls.length := fun v hv e => by
      refine mem_allI.mp (hrefs v.2 ?_)
      unfold refs
      refine List.mem_append.mpr (.inr (List.mem_append.mpr (.inr (List.mem_filterMap.mpr ⟨v, hv, refV_of e⟩))))
    have fin : ∀ (os1 : List Int) (c' : Cl) (L' : Lab) (wy : World) (vo' vout' : Value), addAll os (refs (GH h) a) = os1 → c' = seen (GH h) os1 a → En noL w L' wy [(bh, heapCells h uc us)] → VS L' wy bp bo bm os1 vo' → Sl kCall (Own L') wy [0] ((os.take i).map (seen (GH h) os) ++ [c']) vout' →
        Kn [.pointer (some ⟨bh, 0, none⟩), .slice none 0 0, .pointer (some ⟨bo, 0, none⟩), (.func (.func 122) #[] #[.pointer (some ⟨bh, 0, none⟩), .pointer (some ⟨bp, 0, none⟩), .pointer (some ⟨bo, 0, none⟩)]), vout', .int .i64 (i + 1 : Nat)] wy := by
      intro os1 c' L' wy vo' vout' ho1 hc' E Q hout
      obtain ⟨t, ht⟩ : ∃ t, addAll os (refs (GH h) a) = os ++ t := addAll_pre
      rw [ho1] at ht hb'
      have hsub : ∀ b ∈ refs (GH h) a, b ∈ os1 := fun b hb => by rw [← ho1]; exact addAll_sub.mpr (.inr hb)
      have htk : os1.take (i + 1) = os.take i ++ [a] := by rw [ht, take_app (by omega), take_one ha]
      refine hKn m' _ _ (by omega) ⟨i + 1, L', os1, vo', vout', rfl, E, Q, ?_, ?_, ?_, ?_, hb', by omega⟩
      · rw [htk, List.map_append, List.map_cons, List.map_nil, ← hc']
        have e9 : (os.take i).map (seen (GH h) os1) = (os.take i).map (seen (GH h) os) := List.map_congr_left (fun x hx => by rw [ht]; exact seen_app (hcl2 x hx))
        rw [e9]
        exact hout
      · rw [ht, List.length_append]; omega
      · intro x hx b hb
        rw [htk] at hx
        rcases List.mem_append.mp hx with hx | hx
        · rw [ht]; exact List.mem_append.mpr (.inl (hcl2 x hx b hb))
        · rw [List.mem_singleton] at hx; subst hx; exact hsub b hb
      · intro x hx
        rw [← ho1] at hx
        rcases addAll_sub.mp hx with hx | hx
        · exact hos x hx
        · exact hrefs x hx
    clear hKn
    replace E := E.drew
    replace Q := Q.ext (Fr.refl _ _).drew
    replace hout := hout.keepX (Fr.refl _ _).drew
    (refine fad_of ?_)
    refine E.ld (.head _) rfl ?_
    refine ld_of (Q.ord.cell rfl) ?_
    refine int_ix (Q.row.any (q := [])) (by omega) (by omega) (fun b o hcell => ?_)
    rw [hia] at hcell
    refine ld_of hcell ?_
    refine call_ix (hc0.ext E.toExt) a0 a1 (fun b2 o2 ut ust hcell2 hut hust => ?_)
    refine lds_of (cs := cellsC (callAt h.calls a) ut ust) hcell2 rfl ?_
    refine E.ar1 (l0 := [(bh, heapCells h uc us)]) (.inl ⟨rfl, rfl⟩) (fun w7 s7 l7 E e7 S => ?_)
    refine c_callCopied (hut.ext e7) (hust.ext e7) (by omega) (by omega) (fun w8 M ut' us' e8 hb8 hl8 ht8 hs8 => ?_)
    replace Q := (Q.ext e7).ext e8
    replace hout := (hout.keepX e7).keepX e8
    have hap := apart_of E.mu.lim hb8
    have ht8 := ht8.inR (q := [5]) hap
    have hs8 := hs8.inR (q := [5]) hap
    replace E := E.join [5] e8 hb8 hl8
    replace Q := Q.join (q := [5]) hl8
    replace hout := hout.inL (q := [5]) (M := M)
    clear hap
    generalize joinL L [5] M = L8 at E Q hout ht8 hs8
    refine E.ar1 S (fun w9 s9 l9 E e9 S => ?_)
    replace Q := Q.ext e9
    replace hout := hout.keepX e9
    replace ht8 := ht8.keepX e9
    replace hs8 := hs8.keepX e9
    refine S.nd (fun b17 h17 l17 => ?_)
    subst h17 l17
    refine En.sts' (vs := cellsC (callAt h.calls a) ut' us') [] rfl E rfl rfl (by intro x hx; simp only [cellsC, List.mem_cons, List.not_mem_nil, or_false] at hx; rcases hx with h | h | h | h | h | h <;> rw [h] <;> first | rfl | exact ht8.one | exact hs8.one) (fun w10 E e10 => ?_)
    replace Q := Q.loc e10
    replace hout := hout.loc e10
    replace ht8 := ht8.loc e10
    replace hs8 := hs8.loc e10
    refine ar_some ?_
    refine nd_some ?_
    have hou : ((os.take i).map (seen (GH h) os)).length ≤ 1000 := by rw [List.length_map, List.length_take]; omega
    (refine fad_of ?_)
    refine E.ld (.head _) rfl ?_
    (refine geq_of ?_)
    rcases hcase with ⟨hs0', hsn⟩ | ⟨hs0', hsn⟩
    · refine condGe_of (fun hge => absurd hge (by omega)) (fun _ => ?_)
      refine view_call (c := callAt h.calls a) E (.head _) hc0 hh.n Q ht8 hs8 (by omega) (by omega) hvt hvs (by omega) hout hou (by omega) (fun w' L' vo' x6' E Q hout => ?_)
      have hr : addAll os (refs (GH h) a) = addAll (addAll os ((callAt h.calls a).temps.filterMap (refV (GH h)))) ((callAt h.calls a).stack.filterMap (refV (GH h))) := by
        unfold refs
        rw [hsn, Option.toList_none, List.nil_append, addAll_app, hrt, hrs]
      refine fin _ _ L' w' vo' x6' hr ?_ E Q hout
      have hm1 : (callAt h.calls a).sender = -1 := by have := F3.s0; omega
      unfold seen
      rw [hsn, hrt, hrs]
      show _ = (⟨(callAt h.calls a).method, (callAt h.calls a).pc, _, _, -1, (callAt h.calls a).dead⟩ : Cl)
      rw [← hm1]
    · refine condGe_of (fun hge => ?_) (fun hlt9 => absurd hlt9 (by omega))
      (refine fad_of ?_)
      refine E.ld (.head _) rfl ?_
      refine clv_of (by kernel_rfl) rfl ?_
      have hs1 := F3.s1
      refine c_see Q (E.blk (.tail _ (.head _))) (hc0.ext E.toExt) hh.n hs0' hs1 (by omega) (fun w11 L11 vo11 c11 Q11 => ?_)
      replace E := E.call c11.mu
      replace hout := c11.row Q.lim hout (by simp)
      replace ht8 := c11.row Q.lim ht8 (by simp)
      replace hs8 := c11.row Q.lim hs8 (by simp)
      (refine fad_of ?_)
      generalize hix : (((add1 os (callAt h.calls a).sender).idxOf (callAt h.calls a).sender : Nat) : Int) = ix
      refine En.st' [] E (by simp [cellsC]) rfl (fun w12 E e12 => ?_)
      replace Q11 := Q11.loc e12
      replace hout := hout.loc e12
      replace ht8 := ht8.loc e12
      replace hs8 := hs8.loc e12
      have hol1 : (add1 os (callAt h.calls a).sender).length ≤ 31 := by have h9 := addAll_len (l := [(callAt h.calls a).sender]) (out := os); rw [addAll_one, List.length_singleton] at h9; omega
      refine view_call (c := { callAt h.calls a with sender := ix }) E (.head _) hc0 hh.n Q11 ht8 hs8 (by show (callAt h.calls a).temps.length ≤ _; omega) (by show (callAt h.calls a).stack.length ≤ _; omega) hvt hvs (by omega) hout hou (by omega) (fun w' L' vo' x6' E Q hout => ?_)
      have hr : addAll os (refs (GH h) a) = addAll (addAll (add1 os (callAt h.calls a).sender) ((callAt h.calls a).temps.filterMap (refV (GH h)))) ((callAt h.calls a).stack.filterMap (refV (GH h))) := by
        unfold refs
        rw [hsn, addAll_app, addAll_app, hrt, hrs]; rfl
      refine fin _ _ L' w' vo' x6' hr ?_ E Q hout
      obtain ⟨t1, h1⟩ : ∃ t, addAll (add1 os (callAt h.calls a).sender) ((callAt h.calls a).temps.filterMap (refV (GH h))) = add1 os (callAt h.calls a).sender ++ t := addAll_pre
      obtain ⟨t2, h2⟩ : ∃ t, addAll (addAll (add1 os (callAt h.calls a).sender) ((callAt h.calls a).temps.filterMap (refV (GH h)))) ((callAt h.calls a).stack.filterMap (refV (GH h))) = addAll (add1 os (callAt h.calls a).sender) ((callAt h.calls a).temps.filterMap (refV (GH h))) ++ t := addAll_pre
      have hix2 : (((addAll (addAll (add1 os (callAt h.calls a).sender) ((callAt h.calls a).temps.filterMap (refV (GH h)))) ((callAt h.calls a).stack.filterMap (refV (GH h)))).idxOf (callAt h.calls a).sender : Nat) : Int) = ix := by
        rw [← hix, h2, h1, List.append_assoc, idxOf_app (add1_sub.mpr (.inr rfl))]
      unfold seen
      rw [hsn, hrt, hrs]
      simp only [hix2]
      rfl
  · intro _
    have he : os = F := by
      rw [← hb]
      cases m with
      | zero => rfl
      | succ m =>
        unfold bfs
        rw [List.getElem?_eq_none (by omega)]
    subst he
    have hit : i = os.length := by omega
    subst hit
    rw [List.take_length] at hout
    exact hR wx vout E.toExt (hout.ownBet E.born)
end Go.PT
namespace Go.PT
theorem fill_vw {m : Mc} {up uo ut us : Value} {bm : Nat} : fillT #[(.int .i64 0), (.slice none 0 0), (.slice none 0 0), (.int .i64 0), (.slice none 0 0), (.int .i64 0), (.slice none 0 0), (.int .i64 0), (Value.map none), (.slice none 0 0)] [(0, 8, (.agg (machCells m up uo ut us).toArray)), (8, 1, (Value.map (some bm)))] = some (machCells m up uo ut us ++ [Value.map (some bm), .slice none 0 0]).toArray := by kernel_rfl
theorem MOK.allS_len {p : Pg} {m : Mc} (M : MOK p m) : (allS m).length ≤ 54 := by
  have h1 : ((framesS m).length : Int) ≤ 6 * m.pages.length := by
    rw [framesS_len]
    unfold framesN
    exact (sum_bound (fun g : Pn => (g.frames.length : Int)) 6 (l := m.pages) (fun g hg => by
      obtain ⟨i, i0, i1, rfl⟩ := pn_of_mem hg
      have := M.nf i0 i1
      unfold nF at this
      omega)).2
  have h2 := M.rooms2
  have h3 := M.ntw
  have h4 := M.born2
  unfold allS
  rw [List.length_append, List.length_map, allP_len]
  have h5 := List.length_filter_le (fun s : Sp => decide (s.twin < 0)) (framesS m)
  omega
attribute [local irreducible] ldT ldsT stT stsT allocT boxT bldT bslT nilT fadT ixaT fldT extT lenT pickT binT notT cviT opT opU condT clT clvT ivT loopT arT ndT World.cell? World.frozen? World.alloc World.drew World.setCell Blk Cells Sl
section
variable {m : Mc} {w : World} {up uo ut us : Value} {R : VW}
theorem c_callAtB {w0 : World} {a b : Int} (V : MachV w0 m up uo ut us) (e0 : Ext w0 w) (ha : AtM m a b) (hR : ∀ w' u v, Ext w w' → Sl kPair Any w0 [] (clAt m a b).temps u → Sl kPair Any w0 [] (clAt m a b).stack v → R (.agg (cellsC (clAt m a b) u v).toArray) w') : clT PR 118 [.agg (machCells m up uo ut us).toArray, .agg #[.int .i64 a, .int .i64 b]] w R := by
  refine Fimpl_Mach_callAt.cl ?_
  unfold Fimpl_Mach_callAt
  have hp := V.pages
  have ht := V.twins
  have E := En.start w
  refine E.box (fun b1 w1 E _ => ?_)
  refine E.box (fun b2 w2 E _ => ?_)
  refine E.al (fun b3 w3 E _ => ?_)
  repeat (first | (first | refine fad_of ?_ | refine lss_of ?_) | ((refine E.ld (by first | exact .head _ | exact .tail _ (.head _)) (by exact rfl) ?_)))
  refine condLt_of (fun hl => ?_) (fun hl => ?_)
  · have he : clAt m a b = (twAt m b).left := if_pos hl
    rw [he] at hR
    repeat (first | ((refine fad_of ?_)) | ((refine E.ld (by first | exact .head _ | exact .tail _ (.head _) | exact .tail _ (.tail _ (.head _))) (by exact rfl) ?_)))
    refine tw_ix ht (i := b) (by unfold AtM at ha; omega) (by unfold AtM at ha; omega) (fun b' o u u' hc hu hu' => ?_)
    replace hc : Cells w0 b' o (cellsT (twAt m b) u u') := hc
    (refine fad_of ?_)
    refine lds_of (((hc.ext e0).ext E.toExt).part 2 6 (sub := cellsC (twAt m b).left u u') rfl) rfl ?_
    refine En.sts' (vs := cellsC (twAt m b).left u u') [] rfl E rfl rfl (by intro x hx; simp only [cellsC, List.mem_cons, List.not_mem_nil, or_false] at hx; rcases hx with h | h | h | h | h | h <;> rw [h] <;> first | rfl | exact hu.one | exact hu'.one) (fun w4 E _ => ?_)
    refine E.lds (.head _) rfl ?_
    exact hR _ _ _ E.toExt hu hu'
  · have he : clAt m a b = fmCl (fmAt m a b) (-1) := if_neg (by omega)
    rw [he] at hR
    replace E := E.drew
    (refine fad_of ?_)
    refine E.ld (by (exact .tail _ (.tail _ (.head _)))) rfl ?_
    (refine fad_of ?_)
    refine E.ld (by (exact .tail _ (.head _))) rfl ?_
    refine pn_ix hp (i := a) (by unfold AtM at ha; omega) (by unfold AtM at ha; omega) (fun b' o u hc hf => ?_)
    replace hf : Sl kFm Any w0 [] (pnAt m a).frames u := hf
    (refine fad_of ?_)
    refine ld_of (((hc.ext e0).ext E.toExt).at 1 rfl) ?_
    (refine fad_of ?_)
    refine E.ld (by (exact .tail _ (.head _))) rfl ?_
    refine fm_ix hf (i := b) (by unfold AtM at ha; omega) (by unfold AtM nF at ha; omega) (fun b2' o2 u2 u3 hc2 hu hu' => ?_)
    replace hc2 : Cells w0 b2' o2 (cellsF (fmAt m a b) u2 u3) := hc2
    refine lds_of ((hc2.ext e0).ext E.toExt) rfl ?_
    refine c_frameCall hu.sl hu'.sl (fun w4 e4 => ?_)
    replace E := E.ext e4
    refine En.sts' (vs := cellsC (fmCl (fmAt m a b) (-1)) u2 u3) [] rfl E rfl rfl (by intro x hx; simp only [cellsC, List.mem_cons, List.not_mem_nil, or_false] at hx; rcases hx with h | h | h | h | h | h <;> rw [h] <;> first | rfl | exact hu.one | exact hu'.one) (fun w5 E _ => ?_)
    refine E.lds (.head _) rfl ?_
    exact hR _ _ _ E.toExt hu hu'
theorem view_callM {L : Lab} {w0 : World} {l : List (Nat × List Value)} {bv bm b17 : Nat} {ps : List V} {vo ut2 ust x1 x2 x6 : Value} {c : Cl} {outs : List Cl} {i : Nat} {Kn Kb Kr : LW} {p : Pg}
    (E : En noL w0 L w ((b17, cellsC c ut2 ust) :: l)) (Mk : MOK p m) (hV : MachV w0 m up uo ut us) (B : MB m) (Q : VM L w bv bm m up uo ut us ps vo)
    (ht : Sl kPair Any w0 [] c.temps ut2) (hs : Sl kPair Any w0 [] c.stack ust) (htl : c.temps.length ≤ 1000) (hsl : c.stack.length ≤ 1000) (hint : ∀ v ∈ c.temps, v.1 = 2 → 0 ≤ v.2 ∧ v.2 < m.twins.length) (hins : ∀ v ∈ c.stack, v.1 = 2 → 0 ≤ v.2 ∧ v.2 < m.twins.length)
    (hol : ps.length ≤ 100000) (hx6 : Sl kCall (Own L) w [0] outs x6) (hou : outs.length ≤ 1000) (hi : i ≤ 100000)
    (hK : ∀ w' L' vo' x6', En noL w0 L' w' l → VM L' w' bv bm m up uo ut us (addAll (addAll ps (c.temps.filterMap (refV (GP m)))) (c.stack.filterMap (refV (GP m)))) vo' → Sl kCall (Own L') w' [0] (outs ++ [{ c with temps := c.temps.map (nameV (GP m) (addAll (addAll ps (c.temps.filterMap (refV (GP m)))) (c.stack.filterMap (refV (GP m))))), stack := c.stack.map (nameV (GP m) (addAll (addAll ps (c.temps.filterMap (refV (GP m)))) (c.stack.filterMap (refV (GP m))))) }]) x6' → Kn [x1, x2, .pointer (some ⟨bv, 0, none⟩), x6', .int .i64 (i + 1 : Nat)] w') :
    Fimpl_MachView.j1 x1 x2 (.pointer (some ⟨bv, 0, none⟩)) x6 (.int .i64 i) (.pointer (some ⟨b17, 0, none⟩)) w Kn Kb Kr := by
  have hol2 : (addAll ps (c.temps.filterMap (refV (GP m)))).length ≤ 200000 := by have h1 := addAll_len (l := c.temps.filterMap (refV (GP m))) (out := ps); have h2 := List.length_filterMap_le (refV (GP m)) c.temps; omega
  have hsub : ∀ b ∈ c.temps.filterMap (refV (GP m)), b ∈ addAll ps (c.temps.filterMap (refV (GP m))) := fun b hb => addAll_sub.mpr (.inr hb)
  generalize hos2 : addAll ps (c.temps.filterMap (refV (GP m))) = os2 at hK hol2 hsub
  have hos3 : ∃ t, addAll os2 (c.stack.filterMap (refV (GP m))) = os2 ++ t := addAll_pre
  generalize hos4 : addAll os2 (c.stack.filterMap (refV (GP m))) = os3 at hK hos3
  intro _
  (refine fad_of ?_)
  refine E.ld (.head _) rfl ?_
  refine c_valsM E Mk hV B (.inl rfl) Q (E.any (q := []) ht) htl hint (by omega) (fun w1 L1 vo1 v1 E K1 Q1 h1 => ?_)
  rw [hos2] at Q1 h1
  replace hx6 := K1.row hx6 (by simp)
  (refine fad_of ?_)
  refine En.st' [] E (by simp [cellsC]) h1.one (fun w2 E e2 => ?_)
  replace Q1 := Q1.loc e2
  replace hx6 := hx6.loc e2
  replace h1 := h1.loc e2
  (refine fad_of ?_)
  refine E.ld (.head _) rfl ?_
  refine c_valsM E Mk hV B (.inr rfl) Q1 (E.any (q := []) hs) hsl hins (by omega) (fun w3 L3 vo3 v3 E K3 Q3 h3 => ?_)
  rw [hos4] at Q3 h3
  replace hx6 := K3.row hx6 (by simp)
  replace h1 := K3.row h1 (by simp)
  (refine fad_of ?_)
  refine En.st' [] E (by simp [cellsC]) h3.one (fun w4 E e4 => ?_)
  replace Q3 := Q3.loc e4
  replace hx6 := hx6.loc e4
  replace h1 := h1.loc e4
  replace h3 := h3.loc e4
  obtain ⟨t, ht3⟩ := hos3
  have hnm : c.temps.map (nameV (GP m) os3) = c.temps.map (nameV (GP m) os2) := by rw [ht3]; exact names_app hsub
  replace E := E.call (Mut.relab (n := outs.length) Q3.lim)
  replace h1 := h1.relab5 (n := outs.length)
  replace h3 := h3.relab5 (n := outs.length)
  replace hx6 := hx6.relabN (n := outs.length) (by decide)
  replace Q3 := Q3.relab (n := outs.length)
  generalize relab L3 outs.length = L4 at E h1 h3 hx6 Q3
  obtain ⟨A1, n1, c1, rfl⟩ := h1.sl
  obtain ⟨A3, n3, c3, rfl⟩ := h3.sl
  refine E.lds (.head _) rfl ?_
  refine bsl_of' rfl rfl rfl (fun bc wc ec hbc kc => ?_)
  replace E := E.ext ec
  replace Q3 := Q3.ext ec
  refine grow_one (kd := kCall) (q := [0]) { c with temps := c.temps.map (nameV (GP m) os2), stack := c.stack.map (nameV (GP m) os3) } (by kernel_rfl) (hx6.keepX ec) (show Blk wc bc (cellsC c (.slice A1 n1 c1) (.slice A3 n3 c3)) from kc) ⟨_, _, rfl, h1.keepX ec, h3.keepX ec⟩ rfl (by omega) E.mu.lim (fun v' w' L5 g d e => ?_)
  (refine add_of (by (omega)) (by (omega)) ?_)
  exact hK w' L5 vo3 v' (E.grow g).pop (Q3.grow g) (by rw [hnm]; exact e)
theorem c_machView {p : Pg} (M : MOK p m) (hV : MachV w m up uo ut us) (B : MB m) (hR : ∀ w' v, Ext w w' → Sl kCall (Bet 0 w.heap.size w'.heap.size) w' [] (viewM m) v → R v w') : clT PR 39 [.agg (machCells m up uo ut us).toArray] w R := by
  have W := M.wf
  have hal := M.allS_len
  rw [← allPl_len] at hal
  refine Fimpl_MachView.cl ?_
  unfold Fimpl_MachView
  have E := En.start w
  refine E.box (fun b1 w1 E _ => ?_)
  refine E.lds (.head _) rfl ?_
  refine c_machTop (hV.ext E.toExt) B (fun w2 e2 => ?_)
  replace E := E.ext e2
  refine ext_of rfl ?_
  refine ext_of rfl ?_
  refine E.als (vs := [.int .i64 (topP m).1, .int .i64 (topP m).2.1]) rfl rfl rfl (by simp [Value.oneCell']) (fun b3 w4 E _ => ?_)
  (refine not_of ?_)
  refine condN_of (fun hno => ?_) (fun htop => ?_)
  · -- none runs
    have ht : topSp m = none := by
      cases h : topSp m with
      | none => rfl
      | some b => rw [(top_inW W h).2] at hno; cases hno
    refine hR _ _ E.toExt ?_
    have : viewM m = [] := by unfold viewM view found; rw [show (GM m).now = none from ht]; rfl
    rw [this]
    exact Sl.nil _ _ _ _
  obtain ⟨s0, hs0⟩ : ∃ s, topSp m = some s := by
    cases h : topSp m with
    | none => rw [top_noneP h] at htop; cases htop
    | some b => exact ⟨b, rfl⟩
  obtain ⟨hin0, htp⟩ := top_inW W hs0
  rw [htp] at E
  have hF := found_len M.finP (allPl m).length
  have hgn : (GP m).now = some (plS m s0) := by show (topSp m).map (plS m) = _; rw [hs0]; rfl
  have hF2 : found (GP m) (allPl m).length = bfs (GP m) (allPl m).length 0 [plS m s0] := by unfold found; rw [hgn]
  have hview : viewM m = (found (GP m) (allPl m).length).map (seen (GP m) (found (GP m) (allPl m).length)) := by rw [← M.viewP]; rfl
  rw [hF2] at hview hF
  rw [hview] at hR
  clear hview hF2
  generalize hFF : bfs (GP m) (allPl m).length 0 [plS m s0] = F at hR hF
  refine E.lds (.tail _ (.head _)) rfl ?_
  refine c_there M (hV.ext E.toExt) B (fun w5 e5 => ?_)
  replace E := E.ext e5
  (refine not_of ?_)
  refine condN_of (fun h => nomatch h) (fun _ => ?_)
  refine E.lds (.tail _ (.head _)) rfl ?_
  refine mkp_of (fun bm w6 e6 hb6 m6 => ?_)
  replace E := E.join [] e6 (lab1_born (p := [8]) hb6) (lab1_lim (p := [8]) m6.lt)
  have lm : joinL noL [] (lab1 bm [8]) bm = some [8] := joinL_right (by simp [lab1]) rfl
  generalize joinL noL [] (lab1 bm [8]) = L6 at E lm
  refine bld_of fill_vw ?_
  refine box_of' (fun bv w7 e7 hb7 k7 => ?_)
  replace k7 : Blk w7 bv (machCells m up uo ut us ++ [Value.map (some bm), .slice none 0 0]) := k7
  have hap := apart_of E.mu.lim (lab1_born (p := [9]) hb7)
  replace E := E.join [] e7 (lab1_born (p := [9]) hb7) (lab1_lim (p := [9]) k7.lt)
  have lv : joinL L6 [] (lab1 bv [9]) bv = some [9] := joinL_right (by simp [lab1]) (hap bv [9] (by simp [lab1]))
  replace lm : joinL L6 [] (lab1 bv [9]) bm = some [8] := joinL_left lm
  generalize joinL L6 [] (lab1 bv [9]) = L7 at E lm lv
  have Q : VM L7 w7 bv bm m up uo ut us [] (.slice none 0 0) := ⟨k7, lv, m6.keep e7 (fun h => h), lm, Sl.none0, E.mu.lim⟩
  clear hap k7 m6
  refine E.lds (.tail _ (.head _)) rfl ?_
  refine E.lds (.head _) rfl ?_
  refine c_toldM W (hV.ext E.toExt) B (at_pl W hin0) (fun w8 e8 => ?_)
  replace E := E.ext e8
  replace Q := Q.ext e8
  refine c_seeM (n := plS m s0) Q (by simp) (fun w9 L9 vo9 c9 Q9 => ?_)
  replace E := E.call c9.mu
  have hadd : add1 [] (plS m s0) = [plS m s0] := rfl
  rw [hadd] at Q9
  clear Q
  refine loop_of (fun n s wx => ∃ (i : Nat) (L : Lab) (ps : List V) (vo vout : Value), s = [.pointer (some ⟨b1, 0, none⟩), .slice none 0 0, .pointer (some ⟨bv, 0, none⟩), vout, .int .i64 i] ∧ En noL w L wx [(b3, [.int .i64 (plS m s0).1, .int .i64 (plS m s0).2]), (b1, machCells m up uo ut us)] ∧ VM L wx bv bm m up uo ut us ps vo ∧ Sl kCall (Own L) wx [0] ((ps.take i).map (seen (GP m) ps)) vout ∧ i ≤ ps.length ∧ (∀ a ∈ ps.take i, ∀ b ∈ refs (GP m) a, b ∈ ps) ∧ (∀ a ∈ ps, a ∈ allPl m) ∧ bfs (GP m) n i ps = F ∧ i + n = (allPl m).length) ?_ (m := (allPl m).length)
    ⟨0, L9, [plS m s0], vo9, .slice none 0 0, rfl, E, Q9, Sl.none0, by simp, by simp, fun a ha => by rw [List.mem_singleton] at ha; subst ha; exact (mem_allPl M).mpr ⟨s0, hin0, rfl⟩, hFF, by omega⟩
  clear E Q9 c9
  rintro n s wx Kn ⟨i, L, ps, vo, vout, rfl, E, Q, hout, hi, hcl2, hos, hb, him⟩ hKn
  intro _
  simp only [List.headD_cons, List.tail_cons]
  obtain ⟨tF, htF⟩ := bfs_pre (GP m) n i ps
  have hol : ps.length ≤ 54 := by rw [hb] at htF; have := congrArg List.length htF; rw [List.length_append] at this; omega
  (refine nil_of ?_)
  (refine fad_of ?_)
  refine ld_of (Q.blk.cell rfl) ?_
  refine Q.row.len_of ?_
  (refine lss_of ?_)
  refine condLt_of (fun hlt => ?_) (fun hge => ?_)
  · have hlt' : i < ps.length := by omega
    obtain ⟨a, ha⟩ : ∃ a, ps[i]? = some a := ⟨ps[i], List.getElem?_eq_getElem hlt'⟩
    have hain := hos a (List.mem_of_getElem? ha)
    obtain ⟨sa, hsa, hpa⟩ := (mem_allPl M).mp hain
    have hat : AtM m a.1 a.2 := at_allPl M hain
    have hia : pairAt ps i = a := by unfold pairAt; rw [Int.toNat_natCast, List.getD_eq_getElem?_getD, ha]; rfl
    obtain ⟨m', rfl⟩ : ∃ m', n = m' + 1 := by
      cases n with
      | zero =>
        exfalso
        have h1 : bfs (GP m) 0 i ps = ps := rfl
        rw [h1] at hb
        have h3 : ps.length ≤ (allPl m).length := by rw [hb]; exact hF.2.2
        omega
      | succ m' => exact ⟨m', rfl⟩
    have hb' : bfs (GP m) m' (i + 1) (addAll ps (refs (GP m) a)) = F := by
      rw [← hb]
      conv => rhs; unfold bfs
      rw [ha]
    have N := M.gok.nd sa hsa
    have hcl := cl_pl W hsa
    rw [hpa] at hcl
    have hmeth := methOk_iff.mp (prog_meth M.prog N.m0 N.m1)
    have ht1 := N.temps
    have ht2 := hmeth.t1
    have ht3 := N.stack
    have htl : (clAt m a.1 a.2).temps.length ≤ 1000 := by
      rw [hcl.temps]
      have : ((clOf m sa).temps.length : Int) = _ := ht1
      omega
    have hsl : (clAt m a.1 a.2).stack.length ≤ 1000 := by
      rw [hcl.stack]
      have : ((clOf m sa).stack.length : Int) ≤ 6 := ht3
      omega
    have hvt : ∀ v ∈ (clAt m a.1 a.2).temps, v.1 = 2 → 0 ≤ v.2 ∧ v.2 < m.twins.length := fun v hv e => by
      rw [hcl.temps] at hv
      exact val_in W hsa v (List.mem_append.mpr (.inl hv)) e
    have hvs : ∀ v ∈ (clAt m a.1 a.2).stack, v.1 = 2 → 0 ≤ v.2 ∧ v.2 < m.twins.length := fun v hv e => by
      rw [hcl.stack] at hv
      exact val_in W hsa v (List.mem_append.mpr (.inr hv)) e
    have hrefs := M.finP.refs a hain
    have hrt : (GP m).temps a = (clAt m a.1 a.2).temps := rfl
    have hrs : (GP m).stack a = (clAt m a.1 a.2).stack := rfl
    have fin : ∀ (os1 : List V) (c' : Cl) (L' : Lab) (wy : World) (vo' vout' : Value), addAll ps (refs (GP m) a) = os1 → c' = seen (GP m) os1 a → En noL w L' wy [(b3, [.int .i64 (plS m s0).1, .int .i64 (plS m s0).2]), (b1, machCells m up uo ut us)] → VM L' wy bv bm m up uo ut us os1 vo' → Sl kCall (Own L') wy [0] ((ps.take i).map (seen (GP m) ps) ++ [c']) vout' →
        Kn [.pointer (some ⟨b1, 0, none⟩), .slice none 0 0, .pointer (some ⟨bv, 0, none⟩), vout', .int .i64 (i + 1 : Nat)] wy := by
      intro os1 c' L' wy vo' vout' ho1 hc' E Q hout
      obtain ⟨t, ht⟩ : ∃ t, addAll ps (refs (GP m) a) = ps ++ t := addAll_pre
      rw [ho1] at ht hb'
      have hsub : ∀ b ∈ refs (GP m) a, b ∈ os1 := fun b hb => by rw [← ho1]; exact addAll_sub.mpr (.inr hb)
      have htk : os1.take (i + 1) = ps.take i ++ [a] := by rw [ht, take_app (by omega), take_one ha]
      refine hKn m' _ _ (by omega) ⟨i + 1, L', os1, vo', vout', rfl, E, Q, ?_, ?_, ?_, ?_, hb', by omega⟩
      · rw [htk, List.map_append, List.map_cons, List.map_nil, ← hc']
        have e9 : (ps.take i).map (seen (GP m) os1) = (ps.take i).map (seen (GP m) ps) := List.map_congr_left (fun x hx => by rw [ht]; exact seen_app (hcl2 x hx))
        rw [e9]
        exact hout
      · rw [ht, List.length_append]; omega
      · intro x hx b hb
        rw [htk] at hx
        rcases List.mem_append.mp hx with hx | hx
        · rw [ht]; exact List.mem_append.mpr (.inl (hcl2 x hx b hb))
        · rw [List.mem_singleton] at hx; subst hx; exact hsub b hb
      · intro x hx
        rw [← ho1] at hx
        rcases addAll_sub.mp hx with hx | hx
        · exact hos x hx
        · exact hrefs x hx
    clear hKn
    have ed := (Fr.refl No wx).drew
    replace E := E.drew
    replace Q := Q.drew
    replace hout := hout.keepX (w' := wx.drew) ed
    refine E.lds (.tail _ (.head _)) rfl ?_
    (refine nil_of ?_)
    (refine fad_of ?_)
    refine ld_of (Q.blk.cell rfl) ?_
    refine pair_ix (Q.row.any (q := [])) (by omega) (by omega) (fun b o hcell => ?_)
    rw [hia] at hcell
    refine lds_of hcell rfl ?_
    refine E.ar1 (l0 := [(b3, [.int .i64 (plS m s0).1, .int .i64 (plS m s0).2]), (b1, machCells m up uo ut us)]) (.inl ⟨rfl, rfl⟩) (fun w7 s7 l7 E e7 S => ?_)
    replace Q := Q.ext e7
    replace hout := hout.keepX e7
    refine c_callAtB hV E.toExt hat (fun w8 ut8 ust8 e8 hut hust => ?_)
    replace E := E.ext e8
    replace Q := Q.ext e8
    replace hout := hout.keepX e8
    refine E.ar1 S (fun w9 s9 l9 E e9 S => ?_)
    replace Q := Q.ext e9
    replace hout := hout.keepX e9
    refine S.nd (fun b17 h17 l17 => ?_)
    subst h17 l17
    refine En.sts' (vs := cellsC (clAt m a.1 a.2) ut8 ust8) [] rfl E rfl rfl (cellsC_one hut.one hust.one) (fun w10 E e10 => ?_)
    replace Q := Q.loc e10
    replace hout := hout.loc e10
    refine ar_some ?_
    refine nd_some ?_
    have ed := (Fr.refl No w10).drew
    replace E := E.drew
    replace Q := Q.drew
    replace hout := hout.keepX (w' := w10.drew) ed
    refine E.lds (.tail _ (.tail _ (.head _))) rfl ?_
    (refine nil_of ?_)
    (refine fad_of ?_)
    refine ld_of (Q.blk.cell rfl) ?_
    refine pair_ix (Q.row.any (q := [])) (by omega) (by omega) (fun b o hcell => ?_)
    rw [hia] at hcell
    refine lds_of hcell rfl ?_
    refine E.ar1 (l0 := [(b17, cellsC (clAt m a.1 a.2) ut8 ust8), (b3, [.int .i64 (plS m s0).1, .int .i64 (plS m s0).2]), (b1, machCells m up uo ut us)]) (.inl ⟨rfl, rfl⟩) (fun w11 s11 l11 E e11 S => ?_)
    replace Q := Q.ext e11
    replace hout := hout.keepX e11
    refine c_calledBy W (hV.ext E.toExt) B hat (fun w12 e12 => ?_)
    replace E := E.ext e12
    replace Q := Q.ext e12
    replace hout := hout.keepX e12
    refine ext_of rfl ?_
    refine ext_of rfl ?_
    refine E.ar1 S (fun w13 s13 l13 E e13 S => ?_)
    replace Q := Q.ext e13
    replace hout := hout.keepX e13
    refine S.nd (fun b25 h25 l25 => ?_)
    subst h25 l25
    refine En.sts' (vs := [.int .i64 (byOf m a.1 a.2).1, .int .i64 (byOf m a.1 a.2).2.1]) [] rfl E rfl rfl (by simp [Value.oneCell']) (fun w14 E e14 => ?_)
    replace Q := Q.loc e14
    replace hout := hout.loc e14
    refine ar_some ?_
    refine nd_some ?_
    refine ar_some ?_
    refine nd_some ?_
    (refine fad_of ?_)
    refine En.st' [_] E (by simp [cellsC]) rfl (fun w15 E e15 => ?_)
    replace E : En noL w L w15 ((b25, [.int .i64 (byOf m a.1 a.2).1, .int .i64 (byOf m a.1 a.2).2.1]) :: (b17, cellsC { clAt m a.1 a.2 with sender := -1 } ut8 ust8) :: [(b3, [.int .i64 (plS m s0).1, .int .i64 (plS m s0).2]), (b1, machCells m up uo ut us)]) := E
    replace Q := Q.loc e15
    replace hout := hout.loc e15
    have hou : ((ps.take i).map (seen (GP m) ps)).length ≤ 1000 := by rw [List.length_map, List.length_take]; omega
    refine cond_of (fun hby => ?_) (fun hby => ?_)
    · have hsn : (GP m).sender a = some ((byOf m a.1 a.2).1, (byOf m a.1 a.2).2.1) := if_pos hby
      refine E.lds (.head _) rfl ?_
      refine c_seeM (n := ((byOf m a.1 a.2).1, (byOf m a.1 a.2).2.1)) Q (by omega) (fun w16 L16 vo16 c16 Q16 => ?_)
      replace E := E.call c16.mu
      replace hout := c16.row Q.lim hout (by simp)
      (refine fad_of ?_)
      generalize hbb : ((byOf m a.1 a.2).1, (byOf m a.1 a.2).2.1) = by2 at Q16 hsn ⊢
      generalize hix : (ixV (add1 ps by2) by2 : Int) = ix
      refine En.st' [_] E (by simp [cellsC]) rfl (fun w17 E e17 => ?_)
      replace E : En noL w L16 w17 ((b25, [.int .i64 (byOf m a.1 a.2).1, .int .i64 (byOf m a.1 a.2).2.1]) :: (b17, cellsC { clAt m a.1 a.2 with sender := ix } ut8 ust8) :: [(b3, [.int .i64 (plS m s0).1, .int .i64 (plS m s0).2]), (b1, machCells m up uo ut us)]) := E
      replace Q16 := Q16.loc e17
      replace hout := hout.loc e17
      have hol1 : (add1 ps by2).length ≤ 55 := by have h9 := addAll_len (l := [by2]) (out := ps); rw [addAll_one, List.length_singleton] at h9; omega
      refine view_callM (c := { clAt m a.1 a.2 with sender := ix }) E.pop M hV B Q16 hut hust htl hsl hvt hvs (by omega) hout hou (by omega) (fun w' L' vo' x6' E Q hout => ?_)
      have hr : addAll ps (refs (GP m) a) = addAll (addAll (add1 ps by2) ((clAt m a.1 a.2).temps.filterMap (refV (GP m)))) ((clAt m a.1 a.2).stack.filterMap (refV (GP m))) := by
        unfold refs
        rw [hsn, addAll_app, addAll_app, hrt, hrs]; rfl
      refine fin _ _ L' w' vo' x6' hr ?_ E Q hout
      obtain ⟨t1, h1⟩ : ∃ t, addAll (add1 ps by2) ((clAt m a.1 a.2).temps.filterMap (refV (GP m))) = add1 ps by2 ++ t := addAll_pre
      obtain ⟨t2, h2⟩ : ∃ t, addAll (addAll (add1 ps by2) ((clAt m a.1 a.2).temps.filterMap (refV (GP m)))) ((clAt m a.1 a.2).stack.filterMap (refV (GP m))) = addAll (add1 ps by2) ((clAt m a.1 a.2).temps.filterMap (refV (GP m))) ++ t := addAll_pre
      have hix2 : (ixV (addAll (addAll (add1 ps by2) ((clAt m a.1 a.2).temps.filterMap (refV (GP m)))) ((clAt m a.1 a.2).stack.filterMap (refV (GP m)))) by2 : Int) = ix := by
        rw [← hix, h2, h1, List.append_assoc]
        unfold ixV
        rw [idxOf_app (add1_sub.mpr (.inr rfl))]
      unfold seen
      rw [hsn, ← hix2]
      rfl
    · have hsn : (GP m).sender a = none := if_neg (by rw [hby]; exact Bool.false_ne_true)
      refine view_callM (c := { clAt m a.1 a.2 with sender := -1 }) E.pop M hV B Q hut hust htl hsl hvt hvs (by omega) hout hou (by omega) (fun w' L' vo' x6' E Q hout => ?_)
      have hr : addAll ps (refs (GP m) a) = addAll (addAll ps ((clAt m a.1 a.2).temps.filterMap (refV (GP m)))) ((clAt m a.1 a.2).stack.filterMap (refV (GP m))) := by
        unfold refs
        rw [hsn, Option.toList_none, List.nil_append, addAll_app, hrt, hrs]
      refine fin _ _ L' w' vo' x6' hr ?_ E Q hout
      unfold seen
      rw [hsn]; rfl
  · intro _
    have he : ps = F := by
      rw [← hb]
      cases n with
      | zero => rfl
      | succ n =>
        unfold bfs
        rw [List.getElem?_eq_none (by omega)]
    subst he
    have hit : i = ps.length := by omega
    subst hit
    rw [List.take_length] at hout
    exact hR wx vout E.toExt (hout.ownBet E.born)
end
end Go.PT
namespace Go.PT
theorem min_of {P : Program} {ts : Array TypeId} {t : TypeId} {x y : Int} {w : World} {k : VW} (hk : k (.int .i64 (min x y)) w) : opT P (Builtin.min_ ts t #[.int .i64 x, .int .i64 y]) w k := by
  unfold opT
  rw [run_min_int2]
  have : (if y < x then y else x) = min x y := by split <;> omega
  rw [this]
  exact hk
theorem trim_start {p : Pg} {h : Hp} (H : HOK p h) : min ((viewN h).length : Int) 1 - 1 = min h.now 0 := by
  have h1 := H.now1
  by_cases hn : h.now < 0
  · have : viewN h = [] := by unfold viewN view found; rw [show (GH h).now = none from if_pos hn]; rfl
    rw [this]
    simp; omega
  · have e := found_head (g := GH h) (n := h.calls.length) (a := h.now) (if_neg hn)
    have hl : (viewN h).length = (found (GH h) h.calls.length).length := by unfold viewN view; rw [List.length_map]
    have := (List.getElem?_eq_some_iff.mp e).1
    omega
theorem ok_small {p : Pg} {h : Hp} (H : HOK p h) : h.calls.length ≤ 30 ∧ ∀ c ∈ h.calls, c.temps.length ≤ 10 ∧ c.stack.length ≤ 10 := by
  refine ⟨by have := H.size; have := H.born2; omega, fun c hc => ?_⟩
  have f := form_iff.mp (H.forms c hc)
  have h1 := f.temps
  have h2 := f.stack
  have hm := methOk_iff.mp (prog_meth H.prog f.m0 f.m1)
  have := hm.t1
  omega
attribute [local irreducible] ldT ldsT stT stsT allocT boxT bldT bslT nilT fadT ixaT fldT extT lenT pickT binT notT cviT opT opU condT clT clvT ivT loopT arT ndT World.cell? World.frozen? World.alloc World.drew World.setCell Blk Cells Sl
theorem c_implTrim {p : Pg} {h : Hp} {u uc us : Value} {w : World} {R : VW} (H : HOK p h) (hp : Sl kMeth Any w [] p u) (hh : HeapV w h uc us)
    (hR : ∀ w' v vs, Ext w w' → HeapV w' (trimH h) v vs → R (.tuple #[.agg (heapCells (trimH h) v vs).toArray, .bool true]) w') : clT PR 43 [.agg #[u], .agg (heapCells h uc us).toArray] w R := by
  have hpl := prog_len H.prog
  have hml : ∀ m ∈ p, m.ops.length ≤ 1073741824 := fun m hm => by
    have hpo := H.prog
    unfold progOk at hpo
    simp only [Bool.and_eq_true, List.all_eq_true] at hpo
    have := (methOk_iff.mp (hpo.2.2 m hm)).ops
    omega
  obtain ⟨k1, k2⟩ := ok_small (trim_ok H)
  have k1 : (viewN h).length ≤ 30 := k1
  refine Fimpl_HeapTrim.cl ?_
  unfold Fimpl_HeapTrim
  have E := En.start w
  refine E.box (fun b2 w1 E _ => ?_)
  refine E.box (fun b3 w2 E _ => ?_)
  refine E.al (fun b4 w3 E _ => ?_)
  refine E.lds (by (exact .tail _ (.tail _ (.head _)))) rfl ?_
  refine E.lds (by (exact .tail _ (.head _))) rfl ?_
  refine c_heapOk (hp.ext E.toExt) (by omega) hml (hh.ext E.toExt) (fun w4 e4 => ?_)
  replace E := E.ext e4
  rw [hok_iff.mpr H]
  (refine not_of ?_)
  refine condN_of (fun h => by cases h) (fun _ => ?_)
  refine E.lds (by (exact .tail _ (.head _))) rfl ?_
  have l4 : b4 < w4.heap.size := (E.blk (b := b4) (.head _)).lt
  refine c_heapView H (hh.ext E.toExt) (fun w5 v e5 hv => ?_)
  replace E := (E.ext e5).drew
  have z5 := e5.size
  (refine fad_of ?_)
  refine E.ld (by (exact .tail _ (.head _))) rfl ?_
  (refine fad_of ?_)
  refine E.ld (by (exact .tail _ (.head _))) rfl ?_
  (refine fad_of ?_)
  refine E.ld (by (exact .tail _ (.head _))) rfl ?_
  replace hv := hv.betExt (Fr.refl _ _).drew
  refine Fimpl_start.cl ?_
  unfold Fimpl_start
  refine hv.len_of ?_
  refine min_of ?_
  (refine sub_of (by (omega)) (by (omega)) ?_)
  rw [trim_start H]
  refine ⟨E.ld (by (exact .tail _ (.head _))) rfl rfl, ?_⟩
  refine ⟨E.ld (by (exact .tail _ (.head _))) rfl rfl, ?_⟩
  refine ⟨E.ld (by (exact .tail _ (.head _))) rfl rfl, ?_⟩
  refine c_clone (E.any (q := []) hh.said) hh.ns (fun w6 vs M e6 hb6 hl6 hs6 => ?_)
  replace E := E.ext e6
  replace hv := hv.betExt e6
  have z6 := e6.size
  refine ⟨E.ld (by (exact .tail _ (.head _))) rfl rfl, ?_⟩
  refine ⟨E.ld (by (exact .tail _ (.head _))) rfl rfl, ?_⟩
  obtain ⟨A1, c1, rfl⟩ := hv.is
  obtain ⟨A2, c2, rfl⟩ := hs6.is
  refine bld_of (cs := #[.slice A1 (viewN h).length c1, .int .i64 (min h.now 0), .int .i64 h.born, .slice A2 h.said.length c2, .int .i64 h.code]) rfl ?_
  refine En.sts' (vs := heapCells (trimH h) (.slice A1 (viewN h).length c1) (.slice A2 h.said.length c2)) [] rfl E rfl rfl (fun u hu => List.all_eq_true.mp rfl u hu) (fun w7 E e7 => ?_)
  refine E.lds (.head _) rfl ?_
  have hM : M b4 = none := by
    cases h9 : M b4 with
    | none => rfl
    | some q => have := hb6 b4 q h9; have := (Fr.refl No w5).drew.size; omega
  have hv7 := hv.betSet e7.fr (.inl ⟨Nat.zero_le _, l4⟩) (Nat.zero_le _) z5
  have hs7 := hs6.loc ⟨e7.fr, hM⟩
  exact hR _ _ _ E.toExt ⟨hv7.betAny, hs7.any, by show (viewN h).length ≤ _; omega, fun c hc => by have := k2 c hc; omega, hh.ns⟩
end Go.PT
