/- What comes in: bytes, as the rows' frames hand them over. -/
import Derived.Test.YtfcbjfijidobaaaLaw
set_option linter.unusedVariables false
namespace Go.PT
def IsRow (k : IntKind) (w : World) (a : Option Addr) (len cap : Nat) (zs : List Int) : Prop :=
  (a = none ∧ len = 0 ∧ cap = 0 ∧ zs = []) ∨
  ∃ x, a = some x ∧ len ≤ cap ∧ cap ≤ maxLen ∧ zs.length = cap ∧ (∀ i, i < zs.length → w.cell? (x.add i) = some (.int k (zs.getD i 0))) ∧ ∀ n ∈ zs, (Lit.int k n).wf = true
theorem bt_of {w : World} {a : Option Addr} {len cap : Nat} {zs : List Int} (h : IsRow .u8 w a len cap zs) : ∃ code, Bt w code (.slice a len cap) ∧ ∀ x ∈ code, 0 ≤ x ∧ x ≤ 255 := by
  rcases h with ⟨rfl, rfl, rfl, rfl⟩ | ⟨x, rfl, h1, _, h3, h4, h5⟩
  · exact ⟨[], ⟨⟨_, _, rfl, Nat.le_refl _⟩, .inl rfl⟩, by simp⟩
  · have hl : (zs.take len).length = len := by rw [List.length_take]; omega
    refine ⟨zs.take len, ⟨⟨some x, cap, by rw [hl], by omega⟩, ?_⟩, fun n hn => ?_⟩
    · by_cases h0 : len = 0
      · exact .inl (by rw [h0]; rfl)
      · right
        obtain ⟨b, o, spot⟩ := x
        have hc := h4 0 (by omega)
        have hsp : spot = none := by
          cases spot with
          | none => rfl
          | some s =>
            have e : (Addr.add ⟨b, o, some s⟩ 0) = ⟨b, o, some s⟩ := by simp [Addr.add]
            rw [e] at hc
            unfold World.cell? at hc
            simp at hc
            split at hc <;> simp at hc
        subst hsp
        have hcell : ∀ i, i < len → w.cell? ⟨b, o + i, none⟩ = some (.int .u8 (zs.getD i 0)) := fun i hi => by
          have := h4 i (by omega)
          rwa [Addr.add_lit] at this
        refine ⟨some ⟨b, o, none⟩, cap, by rw [hl], by omega, .inr ⟨b, o, rfl, cell_lt (hcell 0 (by omega)), fun i y hy => ⟨[.int .u8 y], rfl, fun j c hj => ?_⟩⟩⟩
        have hi : i < len := by have := (List.getElem?_eq_some_iff.mp hy).1; omega
        rw [List.getElem?_take_of_lt hi] at hy
        cases j with
        | zero =>
          have : c = .int .u8 y := by simpa using hj.symm
          subst this
          have := hcell i hi
          rw [List.getD_eq_getElem?_getD, hy] at this
          simpa [kByte, Kd.flat] using this
        | succ j => simp at hj
    · have := h5 n (List.mem_of_mem_take hn)
      simp [Lit.wf, IntKind.min, IntKind.max, IntKind.signed, IntKind.bits] at this
      omega
end Go.PT
