/- Arguments whose reading is known are data of their kind. -/
import Derived.Test.YtfcbjfijidobaaaMem
import Derived.Deep.Slices
import Derived.DataReads
set_option linter.unusedVariables false
namespace Go.PT
open Go.Deep
def TrodK {α : Type} (P : Program) (kd : Kd α) (t : TypeId) (G : α → Prop) : Prop :=
  ∀ (H : Type) (enc : TypeId × Value → H) (w : World) (base : Nat) (held : Bool) (fuel : Nat) (cs : List Value) (x : DataW H × List MemPlace), DataW.trod enc P w base (fun _ => true) held fuel t cs = some x → ∃ a, kd.K Any w [] a cs ∧ G a
def I64 (n : Int) : Prop := -9223372036854775808 ≤ n ∧ n ≤ 9223372036854775807
theorem i64_of_wf {n : Int} (h : (Lit.int .i64 n).wf = true) : I64 n := by
  simp [Lit.wf, IntKind.min, IntKind.max, IntKind.signed, IntKind.bits] at h
  unfold I64; omega
theorem trod_i64 {P : Program} {t : TypeId} (ht : P.underlying t = some (.int .i64)) {H : Type} {enc : TypeId × Value → H} {w : World} {base : Nat} {spare : Nat → Bool} {held : Bool} {fuel : Nat} {cs : List Value} {x : DataW H × List MemPlace}
    (h : DataW.trod enc P w base spare held fuel t cs = some x) : ∃ n, cs = [.int .i64 n] ∧ I64 n := by
  obtain ⟨n, h1, _, h2⟩ := DataW.trod_int ht h
  exact ⟨n, h1, i64_of_wf h2⟩
theorem trodK_slice {α : Type} {P : Program} {kd : Kd α} {t e : TypeId} {G : α → Prop} (ht : P.underlying t = some (.slice e)) (hz : P.cellsOf e = kd.sz) (hpos : 0 < kd.sz) (he : TrodK P kd e G)
    {H : Type} {enc : TypeId × Value → H} {w : World} {base : Nat} {held : Bool} {fuel : Nat} {cs : List Value} {x : DataW H × List MemPlace} (h : DataW.trod enc P w base (fun _ => true) held fuel t cs = some x) :
    ∃ xs v, cs = [v] ∧ Sl kd Any w [] xs v ∧ xs.length ≤ maxLen ∧ ∀ a ∈ xs, G a := by
  rcases open_slice ht h with ⟨rfl, _⟩ | ⟨ad, len, cap, m, n, D, Pl, rfl, _, hl, hm, hmm, _, hel⟩
  · exact ⟨[], _, rfl, Sl.nil .., by simp, by simp⟩
  · have hmm' : m = cap := by simpa using hmm
    have hlm : len ≤ m := by omega
    have hel' : ∀ i, i < len → ∃ a es, kd.K Any w [] a es ∧ G a ∧ ∀ j c, es[j]? = some c → w.cell? ((ad.add (i * kd.sz)).add j) = some c := fun i hi => by
      obtain ⟨cs', h1, h2⟩ := hel i (by omega)
      obtain ⟨a, k1, k2⟩ := he _ _ _ _ _ _ _ _ h2
      obtain ⟨_, h3, h4⟩ := World.cells?_some h1
      rw [hz] at h3 h4
      refine ⟨a, cs', k1, k2, fun j c hj => ?_⟩
      have hj' := (List.getElem?_eq_some_iff.mp hj).1
      rw [h4 j (by omega)]; exact hj
    have list : ∀ k, k ≤ len → ∃ xs : List α, xs.length = k ∧ (∀ a ∈ xs, G a) ∧ ∀ i a, xs[i]? = some a → ∃ es, kd.K Any w [] a es ∧ ∀ j c, es[j]? = some c → w.cell? ((ad.add (i * kd.sz)).add j) = some c := by
      intro k
      induction k with
      | zero => exact fun _ => ⟨[], rfl, by simp, fun i a hi => by simp at hi⟩
      | succ k ih =>
        intro hk
        obtain ⟨xs, l1, l2, l3⟩ := ih (by omega)
        obtain ⟨a, es, k1, k2, k3⟩ := hel' k (by omega)
        refine ⟨xs ++ [a], by simp [l1], fun b hb => ?_, fun i b hi => ?_⟩
        · rcases List.mem_append.mp hb with hb | hb
          · exact l2 b hb
          · rw [List.mem_singleton.mp hb]; exact k2
        · rcases Nat.lt_or_ge i xs.length with hlt | hge
          · rw [List.getElem?_append_left hlt] at hi; exact l3 i b hi
          · rw [List.getElem?_append_right hge] at hi
            have h1 := (List.getElem?_eq_some_iff.mp hi).1
            have h2 : i = k := by simp at h1; omega
            subst h2
            rw [l1, Nat.sub_self] at hi
            have : a = b := by simpa using hi
            subst this
            exact ⟨es, k1, k3⟩
    obtain ⟨xs, l1, l2, l3⟩ := list len (Nat.le_refl _)
    obtain ⟨b, o, sp⟩ := ad
    by_cases hsp : sp = none
    · subst hsp
      refine ⟨xs, _, rfl, ⟨_, cap, by rw [l1], by omega, .inr ⟨b, o, rfl, trivial, fun i a hi => ?_⟩⟩, by omega, l2⟩
      obtain ⟨es, k1, k2⟩ := l3 i a hi
      refine ⟨es, kd.free free_any k1, fun j c hj => ?_⟩
      have := k2 j c hj
      rwa [Addr.add_lit, Addr.add_lit] at this
    · -- an address inside a cell holds no cells: there is no element
      have hm0 : m = 0 := by
        rcases Nat.eq_zero_or_pos m with h0 | h0
        · exact h0
        · obtain ⟨cs', h1, _⟩ := hel 0 h0
          obtain ⟨_, h3, h4⟩ := World.cells?_some h1
          rw [hz] at h3 h4
          have h5 := h4 0 hpos
          rw [List.getElem?_eq_getElem (by omega)] at h5
          have e : ((Addr.add ⟨b, o, sp⟩ (0 * kd.sz)).add 0) = ⟨b, o, sp⟩ := by simp [Addr.add]
          rw [e] at h5
          unfold World.cell? at h5
          cases sp with
          | none => exact absurd rfl hsp
          | some s =>
            simp at h5
            split at h5 <;> simp at h5
      have hc0 : cap = 0 := by omega
      exact ⟨xs, _, rfl, ⟨_, cap, by rw [l1], by omega, .inl hc0⟩, by omega, l2⟩
end Go.PT
