/- What is known of the types and functions that the texts name. -/
import Derived.Test.YtfcbjfijidobaaaCode
import Derived.Test.YtfcbjfijidobaaaProg
import Derived.Test.YtfcbjfijidobaaaChecked
namespace Go.PT
noncomputable abbrev PR : Program := Go.Proofs.Try.prog
inductive Tr (α : Type) where
  | leaf
  | node (k : Nat) (v : α) (l r : Tr α)
def Tr.get {α : Type} (d : α) : Tr α → Nat → α
  | .leaf, _ => d
  | .node k v l r, n => bif Nat.beq n k then v else bif Nat.ble n k then l.get d n else r.get d n
def Tr.all {α : Type} (p : Nat → α → Prop) : Tr α → Prop
  | .leaf => True
  | .node k v l r => p k v ∧ l.all p ∧ r.all p
theorem Tr.get_of {α : Type} {d : α} {p : Nat → α → Prop} : ∀ (t : Tr α), t.all p → ∀ n, t.get d n = d ∨ p n (t.get d n)
  | .leaf, _, _ => .inl rfl
  | .node k v l r, h, n => by
    unfold Tr.get
    cases h1 : Nat.beq n k
    · cases h2 : Nat.ble n k
      · exact Tr.get_of r h.2.2 n
      · exact Tr.get_of l h.2.1 n
    · have := Nat.eq_of_beq_eq_true h1; subst this; exact .inr h.1
def ti3 : Ti := { known := true, size := 1, isInt := true, intK := some .i64, iface := false, zero := some #[(.int .i64 0)] }
def ti5 : Ti := { known := true, size := 1, isInt := true, intK := some .u8, iface := false, zero := some #[(.int .u8 0)] }
def ti22 : Ti := { known := true, size := 1, slice := some 36, iface := false, zero := some #[(.slice none 0 0)] }
def ti25 : Ti := { known := true, size := 1, slice := some 33, iface := false, zero := some #[(.slice none 0 0)] }
def ti29 : Ti := { known := true, size := 1, slice := some 5, iface := false, zero := some #[(.slice none 0 0)] }
def ti33 : Ti := { known := true, agg := true, size := 2, iface := false, zero := some #[(.int .i64 0), (.int .i64 0)], fields := some [(0, 1), (1, 1)], places := [some (0, 1, false), some (1, 1, false)] }
def ti36 : Ti := { known := true, agg := true, size := 2, iface := false, zero := some #[(.int .i64 0), (.int .i64 0)], fields := some [(0, 1), (1, 1)], places := [some (0, 1, false), some (1, 1, false)] }
def ti42 : Ti := { known := true, size := 1, slice := some 3, iface := false, zero := some #[(.slice none 0 0)] }
def ti44 : Ti := { known := true, agg := true, size := 2, iface := false, zero := some #[(.slice none 0 0), (.int .i64 0)], fields := some [(0, 1), (1, 1)], places := [some (0, 1, false), some (1, 1, false)] }
theorem ti3_ok : ti3 = tiOf PR 3 := by kernel_rfl
theorem ti5_ok : ti5 = tiOf PR 5 := by kernel_rfl
theorem ti22_ok : ti22 = tiOf PR 22 := by kernel_rfl
theorem ti25_ok : ti25 = tiOf PR 25 := by kernel_rfl
theorem ti29_ok : ti29 = tiOf PR 29 := by kernel_rfl
theorem ti33_ok : ti33 = tiOf PR 33 := by kernel_rfl
theorem ti36_ok : ti36 = tiOf PR 36 := by kernel_rfl
theorem ti42_ok : ti42 = tiOf PR 42 := by kernel_rfl
theorem ti44_ok : ti44 = tiOf PR 44 := by kernel_rfl
def tiT : Tr Ti := (.node 29 ti29 (.node 22 ti22 (.node 5 ti5 (.node 3 ti3 .leaf .leaf) .leaf) (.node 25 ti25 .leaf .leaf)) (.node 42 ti42 (.node 36 ti36 (.node 33 ti33 .leaf .leaf) .leaf) (.node 44 ti44 .leaf .leaf)))
def fnT : Tr Bool := (.node 10 true (.node 6 true (.node 4 true (.node 3 true (.node 2 true .leaf .leaf) .leaf) (.node 5 true .leaf .leaf)) (.node 8 true (.node 7 true .leaf .leaf) (.node 9 true .leaf .leaf))) (.node 14 true (.node 12 true (.node 11 true .leaf .leaf) (.node 13 true .leaf .leaf)) (.node 16 true (.node 15 true .leaf .leaf) (.node 17 true .leaf .leaf))))
def CX : Ctx := { ti := tiT.get {}, fok := fnT.get false }
theorem tiT_ok : tiT.all fun t i => i = tiOf PR t := ⟨ti29_ok, ⟨ti22_ok, ⟨ti5_ok, ⟨ti3_ok, trivial, trivial⟩, trivial⟩, ⟨ti25_ok, trivial, trivial⟩⟩, ⟨ti42_ok, ⟨ti36_ok, ⟨ti33_ok, trivial, trivial⟩, trivial⟩, ⟨ti44_ok, trivial, trivial⟩⟩⟩
theorem fnT_ok : fnT.all fun f _ => ∀ args w, (callFunc f args).run PR w = .ok (.enter f args) w := ⟨Go.Proofs.Try.call10, ⟨Go.Proofs.Try.call6, ⟨Go.Proofs.Try.call4, ⟨Go.Proofs.Try.call3, ⟨Go.Proofs.Try.call2, trivial, trivial⟩, trivial⟩, ⟨Go.Proofs.Try.call5, trivial, trivial⟩⟩, ⟨Go.Proofs.Try.call8, ⟨Go.Proofs.Try.call7, trivial, trivial⟩, ⟨Go.Proofs.Try.call9, trivial, trivial⟩⟩⟩, ⟨Go.Proofs.Try.call14, ⟨Go.Proofs.Try.call12, ⟨Go.Proofs.Try.call11, trivial, trivial⟩, ⟨Go.Proofs.Try.call13, trivial, trivial⟩⟩, ⟨Go.Proofs.Try.call16, ⟨Go.Proofs.Try.call15, trivial, trivial⟩, ⟨Go.Proofs.Try.call17, trivial, trivial⟩⟩⟩⟩
theorem ctxOk : CtxOk PR CX where
  ti := fun t => tiT.get_of tiT_ok t
  fn := fun f h args w => by
    rcases fnT.get_of (d := false) fnT_ok f with h1 | h1
    · have h2 : fnT.get false f = true := h
      rw [h1] at h2; cases h2
    · exact h1 args w
  mixed := by first | exact Checked.mixed | exact Go.Proofs.Try.mixed | rfl
end Go.PT
