/- Rows of one s own. -/
import Derived.Test.YtegddhbcglghdaaGreatGA
import Derived.Test.YtegddhbcglghdaaGreatGC
import Derived.Laws.StructEq
/- Rows of one's own that are written; labels joined; what a change of one's own leaves. -/
set_option linter.unusedVariables false
set_option linter.unusedSimpArgs false
namespace Go.PT
variable {α : Type}
/-! ### elements that are written -/
def At (v : Value) (sz i b o : Nat) : Prop := ∃ n cap o0, v = .slice (some ⟨b, o0, none⟩) n cap ∧ o = o0 + i * sz
theorem Sl.ixo_of {kd : Kd α} {ok w p} {xs : List α} {v} {i : Int} {k : Value → Prop} {sz : Nat} (h : Sl kd ok w p xs v) (hz : sz = kd.sz) (h0 : 0 ≤ i) (h1 : i < xs.length)
    (hk : ∀ x b o es m, xs[i.toNat]? = some x → At v kd.sz i.toNat b o → ok w p b m → kd.K ok w (p ++ [i.toNat]) x es → Cells w b o es → k (.pointer (some ⟨b, o, none⟩))) : ixaT sz v (.int .i64 i) k := by
  obtain ⟨A, cap, rfl, h2, h3⟩ := h
  have hi : i.toNat < xs.length := by omega
  rcases h3 with rfl | ⟨b, o, rfl, h4, h5⟩
  · omega
  · obtain ⟨es, k1, k2⟩ := h5 i.toNat xs[i.toNat] (by simp [hi])
    subst hz
    exact ⟨h0, h1, hk _ b _ es _ (by simp [hi]) ⟨_, _, _, rfl, rfl⟩ h4 k1 k2⟩
def spl (cs : List Value) (q : Nat) (vs : List Value) : List Value := cs.take q ++ vs ++ cs.drop (q + vs.length)
theorem spl_get {cs vs : List Value} {q : Nat} (h : q + vs.length ≤ cs.length) (x : Nat) : (spl cs q vs)[x]? = if x < q then cs[x]? else if x < q + vs.length then vs[x - q]? else cs[x]? := by
  unfold spl
  by_cases h1 : x < q
  · rw [if_pos h1, List.append_assoc, List.getElem?_append_left (by rw [List.length_take]; omega), List.getElem?_take_of_lt h1]
  · rw [if_neg h1]
    by_cases h2 : x < q + vs.length
    · rw [if_pos h2, List.append_assoc, List.getElem?_append_right (by rw [List.length_take]; omega), List.length_take, show x - min q cs.length = x - q by omega, List.getElem?_append_left (by omega)]
    · rw [if_neg h2, List.getElem?_append_right (by rw [List.length_append, List.length_take]; omega), List.length_append, List.length_take, List.getElem?_drop]
      congr 1; omega
theorem spl_len {cs vs : List Value} {q : Nat} (h : q + vs.length ≤ cs.length) : (spl cs q vs).length = cs.length := by
  unfold spl; simp; omega
theorem cell_blk {w : World} {b x : Nat} {cs : List Value} (h : Blk w b cs) : w.cell? ⟨b, x, none⟩ = cs[x]? := by
  obtain ⟨t, h⟩ := h
  unfold World.cell?
  simp [h]
theorem cells_det {w : World} {b o : Nat} {es fs : List Value} (h : Cells w b o es) (h' : Cells w b o fs) (hl : es.length = fs.length) : es = fs := by
  refine List.ext_getElem? fun j => ?_
  rcases Nat.lt_or_ge j es.length with hj | hj
  · have h1 := h j _ (List.getElem?_eq_getElem hj)
    have h2 := h' j _ (List.getElem?_eq_getElem (hl ▸ hj))
    rw [h1] at h2
    rw [List.getElem?_eq_getElem hj, List.getElem?_eq_getElem (hl ▸ hj)]
    exact h2
  · rw [List.getElem?_eq_none hj, List.getElem?_eq_none (hl ▸ hj)]
theorem Sl.puts {kd : Kd α} {L : Lab} {w : World} {p : List Nat} {xs : List α} {v : Value} {i b o off : Nat} {vs : List Value} (h : Sl kd (Own L) w p xs v) (ha : At v kd.sz i b o) (hi : i < xs.length) (hoff : off + vs.length ≤ kd.sz)
    (h1 : ∀ u ∈ vs, u.oneCell' = true) :
    L b = some p ∧ ∃ w', stN w ⟨b, o + off, none⟩ vs 0 = some w' ∧ Fr (fun x => x = b) w w' ∧
      (∀ es, Cells w b o es → es.length = kd.sz → Cells w' b o (spl es off vs)) ∧
      ∀ x', (∀ es, kd.K (Own L) w (p ++ [i]) xs[i] es → Cells w b o es → kd.K (Own L) w' (p ++ [i]) x' (spl es off vs)) → Sl kd (Own L) w' p (xs.set i x') v := by
  obtain ⟨A, cap, rfl, hcap, h3⟩ := h
  obtain ⟨n, cap', o0, e, rfl⟩ := ha
  injection e with e1 e2 e3
  subst e1 e3
  rcases h3 with rfl | ⟨b', o', hb, ho, hel⟩
  · omega
  · injection hb with hb
    injection hb with e4 e5 e6
    subst e4 e5
    obtain ⟨hl, cs, t, hh, hm⟩ := id ho
    have hmul : (i + 1) * kd.sz ≤ cap * kd.sz := Nat.mul_le_mul_right _ (by omega)
    rw [Nat.add_mul, Nat.one_mul] at hmul
    have hB : Blk w b cs.toList := ⟨t, by simpa using hh⟩
    have hcl : cs.toList.length = cs.size := Array.length_toList
    obtain ⟨w', a1, a2, a3⟩ := stN_of vs w b (o0 + i * kd.sz + off) 0 cs.toList hB (by omega) h1
    have a3 : Blk w' b (spl cs.toList (o0 + i * kd.sz + off) vs) := a3
    have hlen : o0 + i * kd.sz + off + vs.length ≤ cs.toList.length := by omega
    have hcs : ∀ es, Cells w b (o0 + i * kd.sz) es → es.length = kd.sz → Cells w' b (o0 + i * kd.sz) (spl es off vs) := by
      intro es hes hel j c hj
      rw [cell_blk a3, spl_get hlen]
      rw [spl_get (by omega)] at hj
      by_cases c1 : j < off
      · rw [if_pos c1] at hj
        rw [if_pos (by omega), ← cell_blk hB]; exact hes j c hj
      · rw [if_neg c1] at hj
        by_cases c2 : j < off + vs.length
        · rw [if_pos c2] at hj
          rw [if_neg (by omega), if_pos (by omega), show o0 + i * kd.sz + j - (o0 + i * kd.sz + off) = j - off by omega]; exact hj
        · rw [if_neg c2] at hj
          rw [if_neg (by omega), if_neg (by omega), ← cell_blk hB]; exact hes j c hj
    refine ⟨hl, w', a1, a2, hcs, fun x' hK => ?_⟩
    refine ⟨_, cap, by rw [List.length_set], by rw [List.length_set]; omega, .inr ⟨b, o0, rfl, ⟨hl, _, _, a3.choose_spec, ?_⟩, ?_⟩⟩
    · rw [List.size_toArray, spl_len hlen, Array.length_toList]; exact hm
    · intro j y hj
      rw [List.getElem?_set] at hj
      by_cases hji : i = j
      · subst hji
        rw [if_pos rfl, if_pos hi] at hj
        obtain rfl := Option.some.inj hj
        obtain ⟨es, k1, k2⟩ := hel i xs[i] (by simp)
        exact ⟨_, hK es k1 k2, hcs es k2 (kd.len k1)⟩
      · rw [if_neg hji] at hj
        obtain ⟨es, k1, k2⟩ := hel j y hj
        have hes := kd.len k1
        refine ⟨es, kd.own k1 a2 (fun c r hc => ⟨fun e => ?_, hc⟩), fun x c hx => ?_⟩
        · subst e
          rw [hl] at hc
          have := congrArg List.length (Option.some.inj hc)
          simp at this
        · have hx' := (List.getElem?_eq_some_iff.mp hx).1
          rw [cell_blk a3, spl_get hlen]
          have hlt : j < i ∨ i < j := by omega
          rcases hlt with hlt | hlt
          · have : (j + 1) * kd.sz ≤ i * kd.sz := Nat.mul_le_mul_right _ hlt
            rw [Nat.add_mul, Nat.one_mul] at this
            rw [if_pos (by omega), ← cell_blk hB]; exact k2 x c hx
          · have : (i + 1) * kd.sz ≤ j * kd.sz := Nat.mul_le_mul_right _ hlt
            rw [Nat.add_mul, Nat.one_mul] at this
            rw [if_neg (by omega), if_neg (by omega), ← cell_blk hB]; exact k2 x c hx

/-! ### what a change of one's own leaves -/
structure Mut (L : Lab) (w : World) (L' : Lab) (w' : World) : Prop where
  fr : Fr (fun b => L b ≠ none) w w'
  un : ∀ b, b < w.heap.size → L b = none → L' b = none
  lim : Lim L' w'
theorem Mut.refl {L : Lab} {w : World} (h : Lim L w) : Mut L w L w := ⟨Fr.refl _ _, fun _ _ h => h, h⟩
theorem Mut.trans {L L' L'' : Lab} {w w' w'' : World} (h : Mut L w L' w') (k : Mut L' w' L'' w'') : Mut L w L'' w'' :=
  ⟨h.fr.trans' k.fr (fun _ _ h => h) (fun b hb hn e => hn (h.un b hb e)), fun b hb e => k.un b (Nat.lt_of_lt_of_le hb h.fr.size) (h.un b hb e), k.lim⟩
theorem Mut.ext {L L' : Lab} {w w' w'' : World} (h : Mut L w L' w') (k : Ext w' w'') : Mut L w L' w'' := ⟨h.fr.ext k, h.un, h.lim.fr k⟩
theorem Mut.pre {L L' : Lab} {w w' w'' : World} (e : Ext w w') (h : Mut L w' L' w'') : Mut L w L' w'' :=
  ⟨e.trans' h.fr (fun _ _ h => h.elim) (fun _ _ h => h), fun b hb => h.un b (Nat.lt_of_lt_of_le hb e.size), h.lim⟩
theorem Mut.drew {L L' : Lab} {w w' : World} (h : Mut L w L' w') : Mut L w L' w'.drew := ⟨h.fr.drew, h.un, h.lim⟩
theorem Mut.none {L L' : Lab} {w w' : World} {b : Nat} (h : Mut L w L' w') (hb : b < w.heap.size) (hn : L b = Option.none) : L' b = Option.none := h.un b hb hn
theorem Mut.size {L L' : Lab} {w w' : World} (h : Mut L w L' w') : w.heap.size ≤ w'.heap.size := h.fr.size
/-- A change of blocks of one label alone, by which that label grows. -/
theorem Mut.of {L L' : Lab} {w w' : World} {q : List Nat} (h : Fr (fun b => L b = some q) w w') (hx : Lx q w L L') (hl : Lim L' w') : Mut L w L' w' :=
  ⟨h.to (fun b _ e => by rw [e]; exact fun h => by cases h), fun b hb hn => by rw [hx.old hb]; exact hn, hl⟩
theorem Mut.at {L : Lab} {w w' : World} {x : Nat} {q : List Nat} (h : Fr (fun b => b = x) w w') (hx : L x = some q) (hl : Lim L w) : Mut L w L w' :=
  ⟨h.to (fun b _ e => by rw [e, hx]; exact fun h => by cases h), fun _ _ h => h, hl.fr h⟩
/-- If all that is labelled was born since, nothing that was there changed. -/
theorem Mut.born {L L' : Lab} {w0 w w' : World} (h : Mut L w L' w') (e : Ext w0 w) (hb : Born w0 L) : Ext w0 w' :=
  e.trans' h.fr (fun _ _ h => h) (fun b hlt hn => by
    cases hL : L b with
    | none => exact absurd hL hn
    | some q => have := hb b q hL; omega)
theorem Mut.still {L L' : Lab} {w0 w w' : World} (h : Mut L w L' w') (hs : w0.heap.size ≤ w.heap.size) (hb : Born w0 L) : Born w0 L' := by
  intro b q hL
  rcases Nat.lt_or_ge b w0.heap.size with hlt | hge
  · cases hL0 : L b with
    | none => rw [h.un b (by omega) hL0] at hL; cases hL
    | some q' => exact hb b q' hL0
  · exact hge
/-- Data that nobody here owns, and that were there. -/
def Un (L : Lab) (n : Nat) : Ok := fun _ _ b _ => L b = none ∧ b < n
theorem free_un (L : Lab) (n : Nat) : Free (Un L n) := fun _ _ _ _ _ _ h => h
theorem Kd.unMut (kd : Kd α) {L L' n w w' p a cs} (h : kd.K (Un L n) w p a cs) (e : Mut L w L' w') (hn : n ≤ w.heap.size) : kd.K (Un L' n) w' p a cs :=
  kd.frame h (fun r b m hb => ⟨fun o v hc => e.fr.cell (by rw [hb.1]; exact fun h => h rfl) hc, e.un b (Nat.lt_of_lt_of_le hb.2 hn) hb.1, hb.2⟩)
theorem Sl.unMut {kd : Kd α} {L L' n w w' p} {xs : List α} {v} (h : Sl kd (Un L n) w p xs v) (e : Mut L w L' w') (hn : n ≤ w.heap.size) : Sl kd (Un L' n) w' p xs v :=
  h.frame (fun r b m hb => ⟨fun o v hc => e.fr.cell (by rw [hb.1]; exact fun h => h rfl) hc, e.un b (Nat.lt_of_lt_of_le hb.2 hn) hb.1, hb.2⟩)
theorem Sl.unExt {kd : Kd α} {L n w w' p} {xs : List α} {v} (h : Sl kd (Un L n) w p xs v) (e : Ext w w') : Sl kd (Un L n) w' p xs v :=
  h.frame (fun r b m hb => ⟨fun o v hc => Ext.cell e hc, hb⟩)
theorem Sl.unUp {kd : Kd α} {L n n' w p} {xs : List α} {v} (h : Sl kd (Un L n) w p xs v) (hn : n ≤ n') : Sl kd (Un L n') w p xs v :=
  h.frame (fun r b m hb => ⟨fun o v hc => hc, hb.1, Nat.lt_of_lt_of_le hb.2 hn⟩)
theorem Sl.unAny {kd : Kd α} {L n w p q} {xs : List α} {v} (h : Sl kd (Un L n) w p xs v) (hn : n ≤ w.heap.size) : Sl kd Any w q xs v := h.frame (fun r b m hb => ⟨fun o v hc => hc, Nat.lt_of_lt_of_le hb.2 hn⟩)
theorem Sl.ofAny {kd : Kd α} {L w p q} {xs : List α} {v} (h : Sl kd Any w p xs v) (hb : Born w L) : Sl kd (Un L w.heap.size) w q xs v :=
  h.frame (fun r b m hlt => ⟨fun o v hc => hc, by
    cases hL : L b with
    | none => rfl
    | some q' => have := hb b q' hL; have hlt : b < w.heap.size := hlt; omega, hlt⟩)
/-- A block that nobody here owns. -/
def UB (L : Lab) (w : World) (b : Nat) (cs : List Value) : Prop := Blk w b cs ∧ L b = none
theorem UB.ext {L w w' b cs} (h : UB L w b cs) (e : Ext w w') : UB L w' b cs := ⟨h.1.ext e, h.2⟩
theorem UB.drew {L w b cs} (h : UB L w b cs) : UB L w.drew b cs := h
theorem UB.mut {L L' w w' b cs} (h : UB L w b cs) (e : Mut L w L' w') : UB L' w' b cs := ⟨h.1.fr e.fr (by rw [h.2]; exact fun h => h rfl), e.un b h.1.lt h.2⟩
theorem UB.of {L w w' b cs} (h : Blk w' b cs) (hb : w.heap.size ≤ b) (hl : Lim L w) : UB L w' b cs := ⟨h, by
  cases hL : L b with
  | none => rfl
  | some q => have := hl b q hL; omega⟩
theorem UB.cell {L w b o cs v} (h : UB L w b cs) (hv : cs[o]? = some v) : w.cell? ⟨b, o, none⟩ = some v := h.1.cell hv
theorem UB.cells {L w b cs} (h : UB L w b cs) : Cells w b 0 cs := h.1.cells

/-! ### labels joined -/
def joinL (L : Lab) (q : List Nat) (M : Lab) : Lab := fun b => match L b with | some p => some p | none => (M b).map (q ++ ·)
theorem joinL_left {L : Lab} {q : List Nat} {M : Lab} {b : Nat} {p : List Nat} (h : L b = some p) : joinL L q M b = some p := by unfold joinL; rw [h]
theorem joinL_right {L : Lab} {q : List Nat} {M : Lab} {b : Nat} {p : List Nat} (h : M b = some p) (hn : L b = none) : joinL L q M b = some (q ++ p) := by unfold joinL; rw [hn]; simp [h]
theorem joinL_none {L : Lab} {q : List Nat} {M : Lab} {b : Nat} (h : M b = none) (hn : L b = none) : joinL L q M b = none := by unfold joinL; rw [hn]; simp [h]
/-- Fresh labels lie apart from old ones. -/
def Apart (L M : Lab) : Prop := ∀ b p, M b = some p → L b = none
theorem apart_of {L M : Lab} {w : World} (hl : Lim L w) (hb : Born w M) : Apart L M := fun b p h => by
  cases hL : L b with
  | none => rfl
  | some q => have := hl b q hL; have := hb b p h; omega
theorem Sl.inL {kd : Kd α} {L M w p q} {xs : List α} {v} (h : Sl kd (Own L) w p xs v) : Sl kd (Own (joinL L q M)) w p xs v :=
  h.own (Fr.refl No w) (fun b r hb => ⟨fun e => e, joinL_left hb⟩)
theorem Sl.inR {kd : Kd α} {L M w p q} {xs : List α} {v} (h : Sl kd (Own M) w p xs v) (ha : Apart L M) : Sl kd (Own (joinL L q M)) w (q ++ p) xs v :=
  h.own (Fr.refl No w) (fun b r hb => ⟨fun e => e, by rw [List.append_assoc]; exact joinL_right hb (ha b _ hb)⟩)
theorem Kd.inL (kd : Kd α) {L M w p q a cs} (h : kd.K (Own L) w p a cs) : kd.K (Own (joinL L q M)) w p a cs :=
  kd.own h (Fr.refl No w) (fun b r hb => ⟨fun e => e, joinL_left hb⟩)
theorem Kd.inR (kd : Kd α) {L M w p q a cs} (h : kd.K (Own M) w p a cs) (ha : Apart L M) : kd.K (Own (joinL L q M)) w (q ++ p) a cs :=
  kd.own h (Fr.refl No w) (fun b r hb => ⟨fun e => e, by rw [List.append_assoc]; exact joinL_right hb (ha b _ hb)⟩)
theorem joinL_lim {L : Lab} {q : List Nat} {M : Lab} {w : World} (h : Lim L w) (k : Lim M w) : Lim (joinL L q M) w := by
  intro b p hb
  unfold joinL at hb
  cases hL : L b with
  | some p' => exact h b p' hL
  | none =>
    rw [hL] at hb
    simp only [Option.map_eq_some_iff] at hb
    obtain ⟨r, h1, _⟩ := hb
    exact k b r h1
theorem joinL_born {L : Lab} {q : List Nat} {M : Lab} {w : World} (h : Born w L) (k : Born w M) : Born w (joinL L q M) := by
  intro b p hb
  unfold joinL at hb
  cases hL : L b with
  | some p' => exact h b p' hL
  | none =>
    rw [hL] at hb
    simp only [Option.map_eq_some_iff] at hb
    obtain ⟨r, h1, _⟩ := hb
    exact k b r h1
/-- Fresh data join one's own. -/
theorem Mut.join {L : Lab} {q : List Nat} {M : Lab} {w w' : World} (e : Ext w w') (hl : Lim L w) (hb : Born w M) (hm : Lim M w') : Mut L w (joinL L q M) w' :=
  ⟨e.fr, fun b hlt hn => joinL_none (by
    cases hM : M b with
    | none => rfl
    | some p => have := hb b p hM; omega) hn, joinL_lim (hl.fr e) hm⟩
theorem UB.join {L M w b cs q} (h : UB L w b cs) (hn : M b = none) : UB (joinL L q M) w b cs := ⟨h.1, joinL_none hn h.2⟩

/-! ### elements whose own rows changed; stores -/
theorem Sl.kid {kd : Kd α} {L L' : Lab} {w w' : World} {p : List Nat} {xs : List α} {v : Value} {i b o : Nat} {S : Nat → Prop} {x' : α} {es : List Value} (h : Sl kd (Own L) w p xs v) (ha : At v kd.sz i b o) (hi : i < xs.length) (e : Fr S w w')
    (hs : ∀ c r, L c = some (p ++ r) → r.head? ≠ some i → ¬ S c ∧ L' c = some (p ++ r)) (hes : Cells w b o es) (hel : es.length = kd.sz) (hK : kd.K (Own L') w' (p ++ [i]) x' es) : Sl kd (Own L') w' p (xs.set i x') v := by
  obtain ⟨A, cap, rfl, hcap, h3⟩ := h
  obtain ⟨n, cap', o0, e0, rfl⟩ := ha
  injection e0 with e1 e2 e3
  subst e1 e3
  rcases h3 with rfl | ⟨b', o', hb, ho, hel'⟩
  · omega
  · injection hb with hb
    injection hb with e4 e5 e6
    subst e4 e5
    have hb0 := hs b [] (by simpa using ho.1) (by simp)
    have hrow := own_keep (L' := L') (q := p) e ho hb0.1 (by simpa using hb0.2)
    refine ⟨_, cap, by rw [List.length_set], by rw [List.length_set]; omega, .inr ⟨b, o0, rfl, hrow.2, fun j y hj => ?_⟩⟩
    rw [List.getElem?_set] at hj
    by_cases hji : i = j
    · subst hji
      rw [if_pos rfl, if_pos hi] at hj
      obtain rfl := Option.some.inj hj
      exact ⟨es, hK, fun j c hc => hrow.1 _ _ (hes j c hc)⟩
    · rw [if_neg hji] at hj
      obtain ⟨fs, k1, k2⟩ := hel' j y hj
      refine ⟨fs, kd.own k1 e (fun c r hc => ?_), fun x c hx => hrow.1 _ _ (k2 x c hx)⟩
      rw [List.append_assoc] at hc ⊢
      exact hs c _ hc (by simpa using fun h => hji h.symm)
theorem st_of_stN {w w' : World} {b o : Nat} {v : Value} {k : World → Prop} (h : stN w ⟨b, o, none⟩ [v] 0 = some w') (hk : k w') : stT (.pointer (some ⟨b, o, none⟩)) v w k := by
  unfold stN at h
  rw [Addr.add_lit, Nat.add_zero] at h
  split at h
  · rename_i hc
    unfold stN at h
    obtain rfl := Option.some.inj h
    exact ⟨hc.1, hc.2.1, hc.2.2, hk⟩
  · cases h
theorem sts_of_stN {w w' : World} {b o n : Nat} {v : Value} {vs : List Value} {k : World → Prop} (hv : v.cells.toList = vs) (hn : n = vs.length) (h : stN w ⟨b, o, none⟩ vs 0 = some w') (hk : k w') : stsT n (.pointer (some ⟨b, o, none⟩)) v w k := by
  refine ⟨by rw [hn, ← hv]; simp, ?_⟩
  rw [hv, h]
  exact hk
theorem Sl.unOf {kd : Kd α} {L M w p q} {xs : List α} {v} (h : Sl kd (Own M) w p xs v) (ha : Apart L M) : Sl kd (Un L w.heap.size) w q xs v :=
  h.frame (fun r b m hb => ⟨fun o v hc => hc, ha b _ hb.1, own_lt hb⟩)
theorem Mut.apart {L M : Lab} {w w' : World} (hl : Lim L w) (hb : Born w M) : Apart L M := apart_of hl hb

/-! ### where a call stands: what it may have changed, and the blocks of its own -/
structure En (L0 : Lab) (w0 : World) (L : Lab) (w : World) (l : List (Nat × List Value)) : Prop where
  mu : Mut L0 w0 L w
  loc : ∀ x ∈ l, UB L w x.1 x.2 ∧ w0.heap.size ≤ x.1
  once : (l.map Prod.fst).Nodup
section
variable {L0 L L' : Lab} {w0 w w' : World} {l : List (Nat × List Value)}
theorem En.init (h : Lim L w) : En L w L w [] := ⟨Mut.refl h, by simp, by simp⟩
theorem En.ext (E : En L0 w0 L w l) (e : Ext w w') : En L0 w0 L w' l := ⟨E.mu.ext e, fun x hx => ⟨(E.loc x hx).1.ext e, (E.loc x hx).2⟩, E.once⟩
theorem En.drew (E : En L0 w0 L w l) : En L0 w0 L w.drew l := E.ext (Fr.refl _ _).drew
theorem En.call (E : En L0 w0 L w l) (m : Mut L w L' w') : En L0 w0 L' w' l := ⟨E.mu.trans m, fun x hx => ⟨(E.loc x hx).1.mut m, (E.loc x hx).2⟩, E.once⟩
theorem En.size (E : En L0 w0 L w l) : w0.heap.size ≤ w.heap.size := E.mu.size
theorem En.add (E : En L0 w0 L w l) {b : Nat} {cs : List Value} (e : Ext w w') (hb : w.heap.size ≤ b) (k : Blk w' b cs) : En L0 w0 L w' ((b, cs) :: l) := by
  have E' := E.ext e
  refine ⟨E'.mu, fun x hx => ?_, ?_⟩
  · rcases List.mem_cons.mp hx with rfl | hx
    · exact ⟨UB.of k hb E.mu.lim, Nat.le_trans E.size hb⟩
    · exact E'.loc x hx
  · refine List.nodup_cons.mpr ⟨fun h => ?_, E.once⟩
    obtain ⟨x, hx, he⟩ := List.mem_map.mp h
    have := (E.loc x hx).1.1.lt
    simp only at he
    omega
theorem En.box (E : En L0 w0 L w l) {t : Nat} {v : Value} {k : VW} (hk : ∀ b w', En L0 w0 L w' ((b, v.cells.toList) :: l) → Ext w w' → k (.pointer (some ⟨b, 0, none⟩)) w') : boxT t v w k :=
  box_of' (fun b w' e hb kb => hk b w' (E.add e hb kb) e)
theorem En.al (E : En L0 w0 L w l) {t : Nat} {z : Array Value} {k : VW} (hk : ∀ b w', En L0 w0 L w' ((b, z.toList) :: l) → Ext w w' → k (.pointer (some ⟨b, 0, none⟩)) w') : allocT t z w k :=
  al_of' (fun b w' e hb kb => hk b w' (E.add e hb kb) e)
theorem En.bsl (E : En L0 w0 L w l) {e n size : Nat} {z : Array Value} {parts : List (Nat × Nat × Value)} {k : VW} (hp : parts = full size 0 (parts.map fun p => p.2.2)) (hn : n = parts.length) (hs : (parts.all fun p => p.2.2.cells.size == size) = true)
    (hk : ∀ b w', En L0 w0 L w' ((b, flat (parts.map fun p => p.2.2)) :: l) → Ext w w' → k (.slice (some ⟨b, 0, none⟩) n n) w') : bslT e n size z parts w k :=
  bsl_of' hp hn hs (fun b w' e hb kb => hk b w' (E.add e hb kb) e)
theorem En.ld (E : En L0 w0 L w l) {b o : Nat} {cs : List Value} {v : Value} {k : Value → Prop} (hm : (b, cs) ∈ l) (hv : cs[o]? = some v) (hk : k v) : ldT (.pointer (some ⟨b, o, none⟩)) w k := ld_of ((E.loc _ hm).1.cell hv) hk
theorem En.lds (E : En L0 w0 L w l) {b n : Nat} {cs : List Value} {k : Value → Prop} (hm : (b, cs) ∈ l) (hn : n = cs.length) (hk : k (.agg cs.toArray)) : ldsT n (.pointer (some ⟨b, 0, none⟩)) w k := lds_of (E.loc _ hm).1.cells hn hk
theorem En.part (E : En L0 w0 L w l) {b o n : Nat} {cs sub : List Value} {k : Value → Prop} (hm : (b, cs) ∈ l) (hs : (cs.drop o).take n = sub) (hn : n = sub.length) (hk : k (.agg sub.toArray)) : ldsT n (.pointer (some ⟨b, o, none⟩)) w k := lds_of ((E.loc _ hm).1.1.part o n hs) hn hk
/-- A block of its own is written. -/
structure Loc (L : Lab) (w w' : World) (b : Nat) : Prop where
  fr : Fr (fun x => x = b) w w'
  un : L b = none
theorem En.put {l1 l2 : List (Nat × List Value)} {b : Nat} {cs cs' : List Value} (E : En L0 w0 L w (l1 ++ (b, cs) :: l2)) (e : Fr (fun x => x = b) w w') (k : Blk w' b cs') : En L0 w0 L w' (l1 ++ (b, cs') :: l2) := by
  have hb := E.loc (b, cs) (by simp)
  have honce := E.once
  rw [List.map_append, List.map_cons, List.nodup_append] at honce
  obtain ⟨o1, o2, o3⟩ := honce
  have keep : ∀ x ∈ l1 ++ (b, cs) :: l2, x.1 ≠ b → UB L w' x.1 x.2 ∧ w0.heap.size ≤ x.1 := fun x hx hne => ⟨⟨(E.loc x hx).1.1.fr e hne, (E.loc x hx).1.2⟩, (E.loc x hx).2⟩
  refine ⟨⟨E.mu.fr.trans' e (fun _ _ h => h) (fun x hx he => by have := hb.2; simp only at this; omega), E.mu.un, E.mu.lim.fr e⟩, fun x hx => ?_, by have := E.once; rw [List.map_append, List.map_cons] at this ⊢; exact this⟩
  rcases List.mem_append.mp hx with hx | hx
  · exact keep x (List.mem_append.mpr (.inl hx)) (fun he => o3 x.1 (List.mem_map.mpr ⟨x, hx, rfl⟩) b (by simp) he)
  · rcases List.mem_cons.mp hx with rfl | hx
    · exact ⟨⟨k, hb.1.2⟩, hb.2⟩
    · exact keep x (by simp [hx]) (fun he => (List.nodup_cons.mp o2).1 (List.mem_map.mpr ⟨x, hx, by simpa using he⟩))
theorem En.st' (l1 : List (Nat × List Value)) {l2 : List (Nat × List Value)} {b o : Nat} {cs : List Value} {v : Value} {k : World → Prop} (E : En L0 w0 L w (l1 ++ (b, cs) :: l2)) (ho : o < cs.length) (h1 : v.oneCell' = true)
    (hk : ∀ w', En L0 w0 L w' (l1 ++ (b, cs.set o v) :: l2) → Loc L w w' b → k w') : stT (.pointer (some ⟨b, o, none⟩)) v w k :=
  st_of' (E.loc (b, cs) (by simp)).1.1 ho h1 (fun w' e kb => hk w' (E.put e kb) ⟨e, (E.loc (b, cs) (by simp)).1.2⟩)
theorem En.sts' (l1 : List (Nat × List Value)) {l2 : List (Nat × List Value)} {b n : Nat} {cs vs : List Value} {v : Value} {k : World → Prop} (hv : v.cells.toList = vs) (E : En L0 w0 L w (l1 ++ (b, cs) :: l2)) (hn : n = vs.length) (hl : cs.length = vs.length) (h1 : ∀ u ∈ vs, u.oneCell' = true)
    (hk : ∀ w', En L0 w0 L w' (l1 ++ (b, vs) :: l2) → Loc L w w' b → k w') : stsT n (.pointer (some ⟨b, 0, none⟩)) v w k :=
  sts_of' hv (E.loc (b, cs) (by simp)).1.1 hn hl h1 (fun w' e kb => hk w' (E.put e kb) ⟨e, (E.loc (b, cs) (by simp)).1.2⟩)
/-- A block of its own, made and written at once. -/
theorem En.als (E : En L0 w0 L w l) {t n : Nat} {z : Array Value} {v : Value} {vs : List Value} {k : VW} (hv : v.cells.toList = vs) (hn : n = vs.length) (hz : z.toList.length = vs.length) (h1 : ∀ u ∈ vs, u.oneCell' = true)
    (hk : ∀ b w', En L0 w0 L w' ((b, vs) :: l) → Ext w w' → k (.pointer (some ⟨b, 0, none⟩)) w') : allocT t z w fun p w1 => stsT n p v w1 fun w2 => k p w2 :=
  al_of' (fun b w1 e hb kb => sts_of' hv kb hn hz h1 (fun w2 e2 kb2 => by
    have e3 : Ext w w2 := e.trans' e2 (fun _ _ h => h) (fun x hx he => by omega)
    exact hk b w2 (E.add e3 hb kb2) e3))
theorem En.un {α : Type} {kd : Kd α} {p : List Nat} {xs : List α} {v : Value} {n : Nat} (E : En L0 w0 L w l) (h : Sl kd (Un L0 n) w0 p xs v) (hn : n ≤ w0.heap.size) : Sl kd (Un L n) w p xs v := h.unMut E.mu hn
theorem En.unAny {α : Type} {kd : Kd α} {p q : List Nat} {xs : List α} {v : Value} {n : Nat} (E : En L0 w0 L w l) (h : Sl kd (Un L0 n) w0 p xs v) (hn : n ≤ w0.heap.size) : Sl kd Any w q xs v := (E.un h hn).unAny (Nat.le_trans hn E.size)
end
theorem Sl.loc {kd : Kd α} {L : Lab} {w w' : World} {q : List Nat} {xs : List α} {v : Value} {b : Nat} (h : Sl kd (Own L) w q xs v) (e : Loc L w w' b) : Sl kd (Own L) w' q xs v :=
  h.own e.fr (fun x r hx => ⟨fun he => (by rw [he, e.un] at hx; cases hx), hx⟩)
end Go.PT

/- A heap at work: the blocks that it owns, and what writing them does. -/
set_option linter.unusedVariables false
set_option linter.unusedSimpArgs false
namespace Go.PT
structure SM (L : Lab) (w : World) (m : Nat) (pre : List Value) (h : Hp) (vc vs : Value) : Prop where
  blk : Blk w m (pre ++ [vc, .int .i64 h.now, .int .i64 h.born, vs, .int .i64 h.code])
  lab : L m = some []
  calls : Sl kCall (Own L) w [0] h.calls vc
  said : Sl kPair (Own L) w [1] h.said vs
  lim : Lim L w
def cellsC (c : Cl) (ut us : Value) : List Value := [.int .i64 c.method, .int .i64 c.pc, ut, us, .int .i64 c.sender, .bool c.dead]
structure Foc (L : Lab) (w : World) (vc : Value) (i : Int) (c : Cl) (b o : Nat) (ut us : Value) : Prop where
  at' : At vc 6 i.toNat b o
  lab : L b = some [0]
  cells : Cells w b o (cellsC c ut us)
  temps : Sl kPair (Own L) w [0, i.toNat, 2] c.temps ut
  stack : Sl kPair (Own L) w [0, i.toNat, 3] c.stack us
variable {L L' : Lab} {w w' : World} {m : Nat} {pre : List Value} {p : Pg} {h : Hp} {u vc vs : Value} {i : Int} {c : Cl} {b o : Nat} {ut us : Value}
theorem SM.ext (S : SM L w m pre h vc vs) (e : Ext w w') : SM L w' m pre h vc vs := ⟨S.blk.ext e, S.lab, S.calls.keepX e, S.said.keepX e, S.lim.fr e⟩
theorem SM.drew (S : SM L w m pre h vc vs) : SM L w.drew m pre h vc vs := S.ext (Fr.refl _ _).drew
theorem Foc.ext (F : Foc L w vc i c b o ut us) (e : Ext w w') : Foc L w' vc i c b o ut us := ⟨F.at', F.lab, F.cells.ext e, F.temps.keepX e, F.stack.keepX e⟩
theorem Foc.drew (F : Foc L w vc i c b o ut us) : Foc L w.drew vc i c b o ut us := F.ext (Fr.refl _ _).drew
theorem SM.cell (S : SM L w m pre h vc vs) {j : Nat} {v : Value} (hv : (pre ++ [vc, .int .i64 h.now, .int .i64 h.born, vs, .int .i64 h.code])[j]? = some v) : w.cell? ⟨m, j, none⟩ = some v := S.blk.cell hv
theorem SM.mut (S : SM L w m pre h vc vs) : Mut L w L w := Mut.refl S.lim
theorem Sl.other {α : Type} {kd : Kd α} {q r : List Nat} {xs : List α} {v : Value} {x : Nat} (hs : Sl kd (Own L) w q xs v) (e : Fr (fun y => y = x) w w') (hx : L x = some r) (hn : ∀ s, q ++ s ≠ r) : Sl kd (Own L) w' q xs v :=
  hs.own e (fun b s hb => ⟨fun e => hn s (by rw [e, hx] at hb; exact (Option.some.inj hb).symm), hb⟩)
theorem Blk.other {x : Nat} {cs : List Value} {r q : List Nat} {bb : Nat} (h : Blk w bb cs) (hb : L bb = some q) (e : Fr (fun y => y = x) w w') (hx : L x = some r) (hn : q ≠ r) : Blk w' bb cs :=
  h.fr e (fun e => by rw [e, hx] at hb; exact hn (Option.some.inj hb).symm)
theorem SM.ix {k : Value → Prop} (S : SM L w m pre h vc vs) (h0 : 0 ≤ i) (h1 : i < h.calls.length) (hk : ∀ b o ut us, Foc L w vc i (callAt h.calls i) b o ut us → k (.pointer (some ⟨b, o, none⟩))) : ixaT 6 vc (.int .i64 i) k := by
  refine S.calls.ixo_of rfl h0 h1 (fun x b o es mm hx ha ho hK hc => ?_)
  obtain ⟨ut, us, rfl, h2, h3⟩ := hK
  have e : callAt h.calls i = x := callAt_of hx
  refine hk b o ut us ⟨ha, ho.1, ?_, ?_, ?_⟩
  · rw [e]; exact hc
  · rw [e]; exact h2
  · rw [e]; exact h3
theorem methUn_ix {n : Nat} {k : Value → Prop} (hp : Sl kMeth (Un L n) w [] p u) (h0 : 0 ≤ i) (h1 : i < p.length)
    (hk : ∀ b o uo, Cells w b o [.int .i64 (methAt p i).args, .int .i64 (methAt p i).temps, uo] → Sl kPair (Un L n) w [] (methAt p i).ops uo → k (.pointer (some ⟨b, o, none⟩))) : ixaT 3 u (.int .i64 i) k := by
  refine hp.ixo_of rfl h0 h1 (fun x b o es mm hx ha ho hK hc => ?_)
  obtain ⟨uo, rfl, h2⟩ := hK
  have e : methAt p i = x := methAt_of hx
  refine hk b o uo ?_ ?_
  · rw [e]; exact hc
  · rw [e]; exact h2.free (free_un L n)
theorem SM.loc {x : Nat} (S : SM L w m pre h vc vs) (e : Loc L w w' x) : SM L w' m pre h vc vs := ⟨S.blk.fr e.fr (fun he => by have h9 := S.lab; rw [he, e.un] at h9; cases h9), S.lab, S.calls.loc e, S.said.loc e, S.lim.fr e.fr⟩
theorem Foc.loc {x : Nat} (F : Foc L w vc i c b o ut us) (e : Loc L w w' x) : Foc L w' vc i c b o ut us := ⟨F.at', F.lab, F.cells.fr e.fr (fun he => by have h9 := F.lab; rw [he, e.un] at h9; cases h9), F.temps.loc e, F.stack.loc e⟩
/-- A field of a call is written. -/
theorem SM.st {v : Value} {off : Nat} {c' : Cl} {ut' us' : Value} {k : World → Prop} (S : SM L w m pre h vc vs) (F : Foc L w vc i c b o ut us) (h0 : 0 ≤ i) (h1 : i < h.calls.length) (hv : v.oneCell' = true) (hoff : off + 1 ≤ 6)
    (hc : spl (cellsC c ut us) off [v] = cellsC c' ut' us') (ht : Sl kPair (Own L) w [0, i.toNat, 2] c'.temps ut') (hs : Sl kPair (Own L) w [0, i.toNat, 3] c'.stack us')
    (hk : ∀ w', Mut L w L w' → SM L w' m pre (putC h i c') vc vs → Foc L w' vc i c' b o ut' us' → k w') : stT (.pointer (some ⟨b, o + off, none⟩)) v w k := by
  obtain ⟨hl, w', a1, a2, a3, a4⟩ := S.calls.puts (vs := [v]) (off := off) F.at' (by omega) hoff (by simpa using hv)
  refine st_of_stN a1 ?_
  have hT := ht.other a2 hl (by simp)
  have hS := hs.other a2 hl (by simp)
  have hcs := a3 _ F.cells rfl
  rw [hc] at hcs
  refine hk w' (Mut.at a2 hl S.lim) ⟨S.blk.other S.lab a2 hl (by simp), S.lab, a4 c' (fun es k1 k2 => ?_), S.said.other a2 hl (by simp), S.lim.fr a2⟩ ⟨F.at', hl, hcs, hT, hS⟩
  have : es = cellsC c ut us := cells_det k2 F.cells (by rw [kCall.len k1]; rfl)
  subst this
  rw [hc]
  exact ⟨ut', us', rfl, hT, hS⟩
theorem set_self {α : Type} {xs : List α} {n : Nat} {x : α} (h : xs[n]? = some x) : xs.set n x = xs := by
  refine List.ext_getElem? fun j => ?_
  rw [List.getElem?_set]
  split
  · rename_i e; subst e
    rw [h, if_pos (List.getElem?_eq_some_iff.mp h).1]
  · rfl
theorem callAt_get {cs : List Cl} (h0 : 0 ≤ i) (h1 : i < cs.length) : cs[i.toNat]? = some (callAt cs i) := by
  unfold callAt
  rw [List.getD_eq_getElem?_getD, List.getElem?_eq_getElem (by omega)]; rfl
theorem put_self (h0 : 0 ≤ i) (h1 : i < h.calls.length) : putC h i (callAt h.calls i) = h := by
  unfold putC
  rw [set_self (callAt_get h0 h1)]
/-- A temp of a call is written. -/
theorem SM.stTemp {v : V} {a : Int} {b2 o2 : Nat} {k : World → Prop} (S : SM L w m pre h vc vs) (F : Foc L w vc i c b o ut us) (h0 : 0 ≤ i) (h1 : i < h.calls.length) (ha : At ut 2 a.toNat b2 o2) (a0 : 0 ≤ a) (a1 : a < c.temps.length)
    (hk : ∀ w', Mut L w L w' → SM L w' m pre (putC h i { c with temps := c.temps.set a.toNat v }) vc vs → Foc L w' vc i { c with temps := c.temps.set a.toNat v } b o ut us → k w') :
    stsT 2 (.pointer (some ⟨b2, o2, none⟩)) (.agg #[.int .i64 v.1, .int .i64 v.2]) w k := by
  obtain ⟨hl, w', b1, b2', b3, b4⟩ := F.temps.puts (vs := [.int .i64 v.1, .int .i64 v.2]) (off := 0) ha (by omega) (by simp [kPair, Kd.flat]) (by simp [Value.oneCell'])
  refine sts_of_stN (vs := [.int .i64 v.1, .int .i64 v.2]) rfl rfl b1 ?_
  have hT : Sl kPair (Own L) w' [0, i.toNat, 2] (c.temps.set a.toNat v) ut := b4 v (fun es k1 k2 => by
    have : es = [.int .i64 (c.temps[a.toNat]'(by omega)).1, .int .i64 (c.temps[a.toNat]'(by omega)).2] := k1
    subst this
    rfl)
  have hS := F.stack.other b2' hl (by simp)
  have hcs : Cells w' b o (cellsC c ut us) := F.cells.fr b2' (fun e => by have h9 := F.lab; rw [e, hl] at h9; simp at h9)
  refine hk w' (Mut.at b2' hl S.lim) ⟨S.blk.other S.lab b2' hl (by simp), S.lab, ?_, S.said.other b2' hl (by simp), S.lim.fr b2'⟩ ⟨F.at', F.lab, hcs, hT, hS⟩
  refine S.calls.kid F.at' (by omega) b2' (fun x r hx hr => ⟨fun e => ?_, hx⟩) F.cells rfl ⟨ut, us, rfl, hT, hS⟩
  rw [e, hl] at hx
  have := Option.some.inj hx
  simp at this
  subst this
  exact hr rfl
/-- A row of a call grew; it is not yet told so. -/
theorem SM.grow {q : Nat} (S : SM L w m pre h vc vs) (F : Foc L w vc i c b o ut us) (h0 : 0 ≤ i) (h1 : i < h.calls.length) (hc : callAt h.calls i = c) (e : Fr (fun x => L x = some [0, i.toNat, q]) w w') (hx : Lx [0, i.toNat, q] w L L') (hl : Lim L' w')
    (ht : q = 2 → Sl kPair (Own L') w' [0, i.toNat, 2] c.temps ut) (hs : q = 3 → Sl kPair (Own L') w' [0, i.toNat, 3] c.stack us) (hq : q = 2 ∨ q = 3) : Mut L w L' w' ∧ SM L' w' m pre h vc vs ∧ Foc L' w' vc i c b o ut us := by
  have lab : ∀ {x : Nat} {r : List Nat}, L x = some r → L' x = some r := fun hr => hx.lab S.lim hr
  have hm := Mut.of e hx hl
  have keep : ∀ {α : Type} {kd : Kd α} {r : List Nat} {xs : List α} {v : Value}, Sl kd (Own L) w r xs v → (∀ s, r ++ s ≠ [0, i.toNat, q]) → Sl kd (Own L') w' r xs v := fun {α kd r xs v} hs hn =>
    hs.own e (fun x s hb => ⟨fun e => hn s (by rw [hb] at e; exact Option.some.inj e), lab hb⟩)
  have hT : Sl kPair (Own L') w' [0, i.toNat, 2] c.temps ut := by
    rcases hq with rfl | rfl
    · exact ht rfl
    · exact keep F.temps (by simp)
  have hS : Sl kPair (Own L') w' [0, i.toNat, 3] c.stack us := by
    rcases hq with rfl | rfl
    · exact keep F.stack (by simp)
    · exact hs rfl
  have hcs : Cells w' b o (cellsC c ut us) := F.cells.fr e (fun e => by have h9 := F.lab; rw [h9] at e; simp at e)
  refine ⟨hm, ⟨S.blk.fr e (fun e => by have h9 := S.lab; rw [h9] at e; simp at e), lab S.lab, ?_, keep S.said (by simp), hl⟩, ⟨F.at', lab F.lab, hcs, hT, hS⟩⟩
  have := S.calls.kid (L' := L') (x' := c) F.at' (by omega) e (fun x r hr hne => ⟨fun e => ?_, lab hr⟩) F.cells rfl ⟨ut, us, rfl, hT, hS⟩
  · rwa [set_self (by rw [← hc]; exact callAt_get h0 h1)] at this
  · rw [hr] at e
    have := Option.some.inj e
    simp at this
    subst this
    exact hne rfl
/-- A field of the machine is written. -/
theorem SM.stM {off : Nat} {v : Value} {h' : Hp} {vc' vs' : Value} {k : World → Prop} (S : SM L w m pre h vc vs) (hv : v.oneCell' = true) (ho : off < pre.length + 5)
    (hb : (pre ++ [vc, .int .i64 h.now, .int .i64 h.born, vs, .int .i64 h.code]).set off v = pre ++ [vc', .int .i64 h'.now, .int .i64 h'.born, vs', .int .i64 h'.code]) (hc : Sl kCall (Own L) w [0] h'.calls vc') (hs : Sl kPair (Own L) w [1] h'.said vs')
    (hk : ∀ w', Mut L w L w' → Fr (fun x => x = m) w w' → SM L w' m pre h' vc' vs' → k w') : stT (.pointer (some ⟨m, off, none⟩)) v w k := by
  refine st_of' S.blk (by simp; omega) hv (fun w' e hB => ?_)
  rw [hb] at hB
  exact hk w' (Mut.at e S.lab S.lim) e ⟨hB, S.lab, hc.other e S.lab (by simp), hs.other e S.lab (by simp), S.lim.fr e⟩
theorem Foc.mach (F : Foc L w vc i c b o ut us) (hl : L m = some []) (e : Fr (fun x => x = m) w w') : Foc L w' vc i c b o ut us :=
  ⟨F.at', F.lab, F.cells.fr e (fun e => by have h9 := F.lab; rw [e, hl] at h9; cases h9), F.temps.other e hl (by simp), F.stack.other e hl (by simp)⟩
/-- The row of what was said, or of calls, grew; it is not yet told so. -/
theorem SM.growM {q : Nat} (S : SM L w m pre h vc vs) (e : Fr (fun x => L x = some [q]) w w') (hx : Lx [q] w L L') (hl : Lim L' w')
    (hc : q = 0 → Sl kCall (Own L') w' [0] h.calls vc) (hs : q = 1 → Sl kPair (Own L') w' [1] h.said vs) (hq : q = 0 ∨ q = 1) : Mut L w L' w' ∧ SM L' w' m pre h vc vs := by
  have lab : ∀ {x : Nat} {r : List Nat}, L x = some r → L' x = some r := fun hr => hx.lab S.lim hr
  have hm := Mut.of e hx hl
  refine ⟨hm, S.blk.fr e (fun e => by have h9 := S.lab; rw [h9] at e; simp at e), lab S.lab, ?_, ?_, hl⟩
  · rcases hq with rfl | rfl
    · exact hc rfl
    · exact S.calls.own e (fun x s hb => ⟨fun e => by rw [hb] at e; simp at e, lab hb⟩)
  · rcases hq with rfl | rfl
    · exact S.said.own e (fun x s hb => ⟨fun e => by rw [hb] at e; simp at e, lab hb⟩)
    · exact hs rfl
end Go.PT

/- Rules for code that owns rows: fresh rows, rows that grow, data that join. -/
set_option linter.unusedVariables false
set_option linter.unusedSimpArgs false
namespace Go.PT
variable {α : Type}
def noL : Lab := fun _ => none
theorem noL_lim (w : World) : Lim noL w := fun _ _ h => by cases h
theorem noL_born (w : World) : Born w noL := fun _ _ h => by cases h
theorem En.start (w : World) : En noL w noL w [] := En.init (noL_lim w)
theorem En.toExt {w0 w : World} {L : Lab} {l : List (Nat × List Value)} (E : En noL w0 L w l) : Ext w0 w := E.mu.fr.to (fun b _ h => h rfl)
theorem En.born {w0 w : World} {L : Lab} {l : List (Nat × List Value)} (E : En noL w0 L w l) : Born w0 L := E.mu.still (Nat.le_refl _) (noL_born w0)
theorem En.any {kd : Kd α} {w0 w : World} {L : Lab} {l : List (Nat × List Value)} {p q : List Nat} {xs : List α} {v : Value} (E : En noL w0 L w l) (h : Sl kd Any w0 p xs v) : Sl kd Any w q xs v := (h.ext E.toExt).re
theorem sllE_of {P : Program} {t : Nat} {kd : Kd α} {ok : Ok} {w : World} {p q : List Nat} {xs : List α} {v : Value} {l : Int} {k : VW} (hc : appB P t (P.elem t) kd.sz = true) (hf : Free ok) (hv : Sl kd ok w p xs v)
    (h0 : 0 ≤ l) (h1 : l ≤ xs.length) (hk : ∀ v', Sl kd ok w q (xs.drop l.toNat) v' → k v' w) : opT P (Instr.sliceAt t v (some (.int .i64 l)) none none) w k := sll_of hc hf hv h0 h1 hk
theorem slrE_of {P : Program} {t : Nat} {kd : Kd α} {ok : Ok} {w : World} {p q : List Nat} {xs : List α} {v : Value} {h : Int} {k : VW} (hc : appB P t (P.elem t) kd.sz = true) (hf : Free ok) (hv : Sl kd ok w p xs v)
    (h0 : 0 ≤ h) (h2 : h ≤ xs.length) (hk : ∀ v', Sl kd ok w q (xs.take h.toNat) v' → k v' w) : opT P (Instr.sliceAt t v none (some (.int .i64 h)) none) w k := slr_of hc hf hv h0 h2 hk
theorem Sl.drewX {kd : Kd α} {L : Lab} {w : World} {p : List Nat} {xs : List α} {v : Value} (h : Sl kd (Own L) w p xs v) : Sl kd (Own L) w.drew p xs v := h.keepX (Fr.refl _ _).drew
/-- One row of one's own grew. -/
structure Grw (q : List Nat) (L : Lab) (w : World) (L' : Lab) (w' : World) : Prop where
  fr : Fr (fun b => L b = some q) w w'
  lx : Lx q w L L'
  lim : Lim L' w'
section
variable {q : List Nat} {L L' : Lab} {w w' : World}
theorem Grw.mu (g : Grw q L w L' w') : Mut L w L' w' := Mut.of g.fr g.lx g.lim
theorem Sl.grow {kd : Kd α} {r : List Nat} {xs : List α} {v : Value} (h : Sl kd (Own L) w r xs v) (g : Grw q L w L' w') (hl : Lim L w) (hn : ∀ s, r ++ s ≠ q) : Sl kd (Own L') w' r xs v :=
  h.own g.fr (fun x s hb => ⟨fun e => hn s (by rw [hb] at e; exact Option.some.inj e), g.lx.lab hl hb⟩)
theorem elemOf {P : Program} {t sz : Nat} (h : appB P t (P.elem t) sz = true) : True := trivial
/-- Written-out elements of a flat kind are appended to a row of one's own. -/
theorem grow_lit {P : Program} {t ty sz : Nat} {f : α → List Value} {h1 : ∀ a, (f a).length = sz} {h2 : ∀ a, ∀ v ∈ f a, v.oneCell' = true} {xs : List α} (ys : List α) {v : Value} {b n c : Nat} {k : VW}
    (hc : appB P t (P.elem t) sz = true) (hv : Sl (Kd.flat sz f h1 h2) (Own L) w q xs v) (hb : Blk w b ((ys.map f).flatten)) (hn' : n = ys.length) (hn : xs.length + ys.length ≤ 1073741824) (hL : Lim L w)
    (hk : ∀ v' w' L', Grw q L w L' w' → Sl (Kd.flat sz f h1 h2) (Own L') w' q xs v → Sl (Kd.flat sz f h1 h2) (Own L') w' q (xs ++ ys) v' → k v' w') : opT P (Builtin.append_ #[t, t] ty #[v, .slice (some ⟨b, 0, none⟩) n c]) w k := by
  subst hn'
  refine app_of2 (kd := Kd.flat sz f h1 h2) hc hv (src_row hc (flatten_len h1 ys) hb.cells (fun u hu => ?_)) (fun j y hj => ⟨f y, rfl, fun i c hi => flatten_get h1 ys j y i c hj hi⟩) hn hL (fun v' w' L' a b c d e => hk v' w' L' ⟨a, b, c⟩ d e)
  obtain ⟨l, hl, hu⟩ := List.mem_flatten.mp hu
  obtain ⟨a, _, rfl⟩ := List.mem_map.mp hl
  exact h2 a u hu
/-- A row of flat elements is appended to a row of one's own. -/
theorem grow_row {P : Program} {t ty sz : Nat} {f : α → List Value} {h1 : ∀ a, (f a).length = sz} {h2 : ∀ a, ∀ v ∈ f a, v.oneCell' = true} {xs ys : List α} {v x : Value} {ok : Ok} {p : List Nat} {k : VW}
    (hc : appB P t (P.elem t) sz = true) (hv : Sl (Kd.flat sz f h1 h2) (Own L) w q xs v) (hx : Sl (Kd.flat sz f h1 h2) ok w p ys x) (hn : xs.length + ys.length ≤ 1073741824) (hL : Lim L w)
    (hk : ∀ v' w' L', Grw q L w L' w' → Sl (Kd.flat sz f h1 h2) (Own L') w' q xs v → Sl (Kd.flat sz f h1 h2) (Own L') w' q (xs ++ ys) v' → k v' w') : opT P (Builtin.append_ #[t, t] ty #[v, x]) w k := by
  obtain ⟨news, s1, s2⟩ := Sl.src (kd := Kd.flat sz f h1 h2) hc hx
  exact app_of2 (kd := Kd.flat sz f h1 h2) hc hv s1 (fun j y hj => s2 j y hj) hn hL (fun v' w' L' a b c d e => hk v' w' L' ⟨a, b, c⟩ d e)
/-- One element of any kind is appended to a row of one's own. -/
theorem grow_one {P : Program} {t ty : Nat} {kd : Kd α} {xs : List α} (y : α) {v : Value} {b n c : Nat} {es : List Value} {k : VW}
    (hc : appB P t (P.elem t) kd.sz = true) (hv : Sl kd (Own L) w q xs v) (hb : Blk w b es) (hy : kd.K (Own L) w (q ++ [xs.length]) y es) (hn1 : n = 1) (hn : xs.length + 1 ≤ 1073741824) (hL : Lim L w)
    (hk : ∀ v' w' L', Grw q L w L' w' → Sl kd (Own L') w' q xs v → Sl kd (Own L') w' q (xs ++ [y]) v' → k v' w') : opT P (Builtin.append_ #[t, t] ty #[v, .slice (some ⟨b, 0, none⟩) n c]) w k := by
  subst hn1
  refine app_of2 (kd := kd) (ys := [y]) hc hv (src_row hc (news := es) (by rw [kd.len hy]; simp) hb.cells (kd.one hy)) (fun j z hj => ?_) hn hL (fun v' w' L' a b c d e => hk v' w' L' ⟨a, b, c⟩ d e)
  cases j with
  | zero =>
    obtain rfl : y = z := by simpa using hj
    exact ⟨es, hy, fun i c hi => by simpa using hi⟩
  | succ j => simp at hj
theorem Sl.none0 {kd : Kd α} {ok : Ok} {p : List Nat} {A : Option Addr} : Sl kd ok w p [] (.slice A 0 0) := ⟨A, 0, rfl, Nat.le_refl _, .inl rfl⟩
end
section
variable {L0 L L' M : Lab} {w0 w w' : World} {l : List (Nat × List Value)} {q : List Nat}
theorem En.pop {x : Nat × List Value} (E : En L0 w0 L w (x :: l)) : En L0 w0 L w l := ⟨E.mu, fun x hx => E.loc x (.tail _ hx), (List.nodup_cons.mp E.once).2⟩
theorem En.grow (E : En L0 w0 L w l) (g : Grw q L w L' w') : En L0 w0 L' w' l := E.call g.mu
theorem En.blk (E : En L0 w0 L w l) {b : Nat} {cs : List Value} (hm : (b, cs) ∈ l) : Blk w b cs := (E.loc _ hm).1.1
/-- Fresh data join one's own. -/
theorem En.join (E : En L0 w0 L w l) (q : List Nat) (e : Ext w w') (hb : Born w M) (hm : Lim M w') : En L0 w0 (joinL L q M) w' l := E.call (Mut.join e E.mu.lim hb hm)
end
section
variable {L L' M : Lab} {w w' : World} {m : Nat} {pre : List Value} {h : Hp} {vc vs : Value} {i : Int} {c : Cl} {b o : Nat} {ut us : Value} {q : List Nat}
theorem SM.join (S : SM L w m pre h vc vs) (hm : Lim M w) : SM (joinL L q M) w m pre h vc vs := ⟨S.blk, joinL_left S.lab, S.calls.inL, S.said.inL, joinL_lim S.lim hm⟩
theorem Foc.join (F : Foc L w vc i c b o ut us) : Foc (joinL L q M) w vc i c b o ut us := ⟨F.at', joinL_left F.lab, F.cells, F.temps.inL, F.stack.inL⟩
theorem SM.grw (S : SM L w m pre h vc vs) (g : Grw q L w L' w') (hq : ∀ s, [0] ++ s ≠ q ∧ [1] ++ s ≠ q) (hq0 : q ≠ []) : SM L' w' m pre h vc vs :=
  ⟨S.blk.fr g.fr (fun e => by have h9 := S.lab; rw [h9] at e; exact hq0 (Option.some.inj e).symm), g.lx.lab S.lim S.lab, S.calls.grow g S.lim (fun s => (hq s).1), S.said.grow g S.lim (fun s => (hq s).2), g.lim⟩
/-- A value is appended to those of a call. -/
theorem SM.app1 {P : Program} {t ty : Nat} {v : V} {bb n cc : Nat} {k : VW} (hc' : appB P t (P.elem t) 2 = true) (S : SM L w m pre h vc vs) (F : Foc L w vc i c b o ut us) (h0 : 0 ≤ i) (h1 : i < h.calls.length) (hc : callAt h.calls i = c) (hb : Blk w bb [.int .i64 v.1, .int .i64 v.2]) (hn : n = 1) (hr : c.stack.length + 1 ≤ 1073741824)
    (hk : ∀ v' w' L', Mut L w L' w' → SM L' w' m pre h vc vs → Foc L' w' vc i c b o ut us → Sl kPair (Own L') w' [0, i.toNat, 3] (c.stack ++ [v]) v' → k v' w') : opT P (Builtin.append_ #[t, t] ty #[us, .slice (some ⟨bb, 0, none⟩) n cc]) w k := by
  refine grow_lit [v] hc' F.stack (by simpa using hb) hn (by simpa using hr) S.lim (fun v' w' L' g d e => ?_)
  obtain ⟨a1, a2, a3⟩ := S.grow (q := 3) F h0 h1 hc g.fr g.lx g.lim (fun e => by cases e) (fun _ => d) (.inr rfl)
  exact hk v' w' L' a1 a2 a3 e
/-- A value is appended to what was said. -/
theorem SM.appSaid {P : Program} {t ty : Nat} {v : V} {bb n cc : Nat} {k : VW} (hc' : appB P t (P.elem t) 2 = true) (S : SM L w m pre h vc vs) (hb : Blk w bb [.int .i64 v.1, .int .i64 v.2]) (hn : n = 1) (hr : h.said.length + 1 ≤ 1073741824)
    (hk : ∀ v' w' L', Mut L w L' w' → SM L' w' m pre h vc vs → Sl kPair (Own L') w' [1] (h.said ++ [v]) v' → k v' w') : opT P (Builtin.append_ #[t, t] ty #[vs, .slice (some ⟨bb, 0, none⟩) n cc]) w k := by
  refine grow_lit [v] hc' S.said (by simpa using hb) hn (by simpa using hr) S.lim (fun v' w' L' g d e => ?_)
  obtain ⟨a1, a2⟩ := S.growM (q := 1) g.fr g.lx g.lim (fun e => by cases e) (fun _ => d) (.inr rfl)
  exact hk v' w' L' a1 a2 e
/-- A call is appended to the calls. -/
theorem SM.appCall {P : Program} {t ty : Nat} {c' : Cl} {ut' us' : Value} {bb n cc : Nat} {k : VW} (hc' : appB P t (P.elem t) 6 = true) (S : SM L w m pre h vc vs) (hb : Blk w bb (cellsC c' ut' us')) (ht : Sl kPair (Own L) w [0, h.calls.length, 2] c'.temps ut') (hs : Sl kPair (Own L) w [0, h.calls.length, 3] c'.stack us') (hn : n = 1) (hr : h.calls.length + 1 ≤ 1073741824)
    (hk : ∀ v' w' L', Mut L w L' w' → SM L' w' m pre h vc vs → Sl kCall (Own L') w' [0] (h.calls ++ [c']) v' → k v' w') : opT P (Builtin.append_ #[t, t] ty #[vc, .slice (some ⟨bb, 0, none⟩) n cc]) w k := by
  refine grow_one (kd := kCall) c' hc' S.calls hb ⟨ut', us', rfl, ht, hs⟩ hn hr S.lim (fun v' w' L' g d e => ?_)
  obtain ⟨a1, a2⟩ := S.growM (q := 0) g.fr g.lx g.lim (fun _ => d) (fun e => by cases e) (.inl rfl)
  exact hk v' w' L' a1 a2 e
end
end Go.PT

/- Two structs of two numbers compared. -/
set_option linter.unusedVariables false
set_option linter.unusedSimpArgs false
namespace Go.PT
def i64B (P : Program) (t : Nat) : Bool := match P.underlying t with | some (.int .i64) => true | _ => false
def pairB (P : Program) (t : Nat) : Bool :=
  (match P.underlying t with
  | some (.struct fs) => (match fs.toList with | [f, g] => f.offset == 0 && g.offset == 1 && f.name != "_" && g.name != "_" && i64B P f.type && i64B P g.type | _ => false)
  | _ => false) && !P.stoodInHeld t && !P.eqGuardType P.depth t
theorem i64B_of {P : Program} {t : Nat} (h : i64B P t = true) : P.underlying t = some (.int .i64) := by
  unfold i64B at h
  split at h
  · assumption
  · cases h
theorem part_i64 {P : Program} {t off : Nat} {xs : Array Value} {v : Value} {w : World} (h : P.underlying t = some (.int .i64)) (hx : xs[off]? = some v) : (part t xs off).run P w = .ok v w := by
  simp [part, isAgg, run_underlying h, hx]
theorem run_pairEq {P : Program} {t : Nat} (h : pairB P t = true) (a b c d : Int) (w : World) : (Op.equal t (.agg #[.int .i64 a, .int .i64 b]) (.agg #[.int .i64 c, .int .i64 d])).run P w = .ok (decide ((a, b) = (c, d))) w := by
  unfold pairB at h
  rw [Bool.and_eq_true, Bool.and_eq_true] at h
  obtain ⟨⟨h1, h2⟩, h3⟩ := h
  split at h1
  · rename_i fs hfs
    have hf : P.fieldsOf t = fs := by simp [Program.fieldsOf, hfs]
    split at h1
    · rename_i f g hfg
      simp only [Bool.and_eq_true, beq_iff_eq, bne_iff_ne, ne_eq] at h1
      obtain ⟨⟨⟨⟨⟨o1, o2⟩, n1⟩, n2⟩, u1⟩, u2⟩ := h1
      have hmd : Op.maxDepth = (9998 + 1) + 1 := rfl
      unfold Op.equal
      rw [hmd, run_equalIn_struct w 9999 t _ _ (by rw [hf]; exact hfs) (by simpa using h2), hf, hfg]
      have e1 : (Op.equalIn 9999 f.type (.int .i64 a) (.int .i64 c)).run P w = .ok (a == c) w := run_equalIn_int (P := P) w 9998 f.type .i64 .i64 a c (i64B_of u1)
      have e2 : (Op.equalIn 9999 g.type (.int .i64 b) (.int .i64 d)).run P w = .ok (b == d) w := run_equalIn_int (P := P) w 9998 g.type .i64 .i64 b d (i64B_of u2)
      have q1 : ∀ x y : Int, (part f.type #[.int .i64 x, .int .i64 y] 0).run P w = .ok (.int .i64 x) w := fun x y => part_i64 (i64B_of u1) rfl
      have q2 : ∀ x y : Int, (part g.type #[.int .i64 x, .int .i64 y] 1).run P w = .ok (.int .i64 y) w := fun x y => part_i64 (i64B_of u2) rfl
      have n1' : (f.name ≠ "_") = True := by simp [n1]
      have n2' : (g.name ≠ "_") = True := by simp [n2]
      simp only [Op.eqFields, n1', n2', if_true, Sem.run_bind, o1, o2, q1, q2, Result.andThen_ok, e1, e2]
      clear hmd hf hfg hfs
      rcases Decidable.em (a = c) with rfl | hac <;> rcases Decidable.em (b = d) with rfl | hbd <;> simp [*, Op.eqFields]
    · cases h1
  · cases h1
theorem eqlP_of {P : Program} {t : Nat} {x y : Operand} {u v : Int × Int} {w : World} {k : VW} (h : pairB P t = true) (hk : k (.bool (decide (u = v))) w) :
    opT P (do eqGuard .eql t x y (.agg #[.int .i64 u.1, .int .i64 u.2]) (.agg #[.int .i64 v.1, .int .i64 v.2]); binOp .eql t (.agg #[.int .i64 u.1, .int .i64 u.2]) (.agg #[.int .i64 v.1, .int .i64 v.2])) w k := by
  have h3 : P.eqGuardType P.depth t = false := by unfold pairB at h; simp only [Bool.and_eq_true, Bool.not_eq_true'] at h; exact h.2
  have e := run_pairEq h u.1 u.2 v.1 v.2 w
  have : (do eqGuard .eql t x y (.agg #[.int .i64 u.1, .int .i64 u.2]) (.agg #[.int .i64 v.1, .int .i64 v.2]); binOp .eql t (.agg #[.int .i64 u.1, .int .i64 u.2]) (.agg #[.int .i64 v.1, .int .i64 v.2]) : Sem Value).run P w = .ok (.bool (decide (u = v))) w := by
    obtain ⟨u1, u2⟩ := u
    obtain ⟨v1, v2⟩ := v
    simp only at e
    simp [eqGuard, binOp, h3, e]
  unfold opT
  simp only [this]
  exact hk
theorem neqP_of {P : Program} {t : Nat} {x y : Operand} {u v : Int × Int} {w : World} {k : VW} (h : pairB P t = true) (hk : k (.bool (decide (u ≠ v))) w) :
    opT P (do eqGuard .neq t x y (.agg #[.int .i64 u.1, .int .i64 u.2]) (.agg #[.int .i64 v.1, .int .i64 v.2]); binOp .neq t (.agg #[.int .i64 u.1, .int .i64 u.2]) (.agg #[.int .i64 v.1, .int .i64 v.2])) w k := by
  have h3 : P.eqGuardType P.depth t = false := by unfold pairB at h; simp only [Bool.and_eq_true, Bool.not_eq_true'] at h; exact h.2
  have e := run_pairEq h u.1 u.2 v.1 v.2 w
  have : (do eqGuard .neq t x y (.agg #[.int .i64 u.1, .int .i64 u.2]) (.agg #[.int .i64 v.1, .int .i64 v.2]); binOp .neq t (.agg #[.int .i64 u.1, .int .i64 u.2]) (.agg #[.int .i64 v.1, .int .i64 v.2]) : Sem Value).run P w = .ok (.bool (decide (u ≠ v))) w := by
    obtain ⟨u1, u2⟩ := u
    obtain ⟨v1, v2⟩ := v
    simp only at e
    simp [eqGuard, binOp, h3, e, bne]
  unfold opT
  simp only [this]
  exact hk
end Go.PT
