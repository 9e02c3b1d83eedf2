/- A slice of turns that comes in is data of its kind. -/
import Derived.Test.YtfcbjfijidobaaaExact
set_option linter.unusedVariables false
namespace Go.PT
/-- A struct of two numbers. -/
theorem trodK_two {P : Program} {t f g : TypeId} {n1 n2 p1 p2 q1 q2 : String} {o2 : Nat} (ht : P.underlying t = some (.struct #[{ name := n1, type := f, offset := 0, embedded := false, tag := p1, pkgPath := q1, byteOffset := 0 }, { name := n2, type := g, offset := 1, embedded := false, tag := p2, pkgPath := q2, byteOffset := o2 }]))
    (hf : P.underlying f = some (.int .i64)) (hg : P.underlying g = some (.int .i64)) (h2 : P.cellsOf t = 2) (cf : P.cellsOf f = 1) (cg : P.cellsOf g = 1) : TrodK P kTurn t (fun t => I64 t.1 ∧ I64 t.2) := by
  intro H enc w base held fuel cs x h
  obtain ⟨xs, n, _, _, hl, hxs, hel⟩ := DataW.trod_struct ht h
  rw [h2] at hl
  match cs, hl with
  | [c0, c1], _ =>
    have e0 : DataW.trod enc P w base (fun _ => true) held n f ([c0, c1].take (P.cellsOf f)) = xs[0]? := hel 0 { name := n1, type := f, offset := 0, embedded := false, tag := p1, pkgPath := q1, byteOffset := 0 } rfl
    have e1 : DataW.trod enc P w base (fun _ => true) held n g ([c1].take (P.cellsOf g)) = xs[1]? := hel 1 { name := n2, type := g, offset := 1, embedded := false, tag := p2, pkgPath := q2, byteOffset := o2 } rfl
    rw [cf] at e0
    rw [cg] at e1
    rw [List.getElem?_eq_getElem (by rw [hxs]; simp)] at e0 e1
    obtain ⟨a, ha, ia⟩ := trod_i64 hf e0
    obtain ⟨b, hb, ib⟩ := trod_i64 hg e1
    exact ⟨(a, b), by simp at ha hb; rw [ha, hb]; rfl, ia, ib⟩
end Go.PT
