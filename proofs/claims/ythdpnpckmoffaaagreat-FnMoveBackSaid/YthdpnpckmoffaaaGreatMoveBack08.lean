/- What the claim of FnMoveBack leans on, part 9 of 16. -/
import Derived.Below
import Derived.Deep.AppendSrc
import Derived.Laws.AppendOwn
import Derived.Deep.Upon
import Derived.Laws.Slices
import Derived.Laws.MakeOwn
import Derived.Test.YthdpnpckmoffaaaGreatMoveBack00
import Derived.Test.YthdpnpckmoffaaaGreatMoveBack01
import Derived.Test.YthdpnpckmoffaaaGreatMoveBack02
import Derived.Test.YthdpnpckmoffaaaGreatMoveBack03
import Derived.Test.YthdpnpckmoffaaaGreatMoveBack04
import Derived.Test.YthdpnpckmoffaaaGreatMoveBack05
import Derived.Test.YthdpnpckmoffaaaGreatMoveBack06
import Derived.Test.YthdpnpckmoffaaaGreatMoveBack07
set_option linter.unusedVariables false
set_option linter.unusedSimpArgs false
set_option linter.unusedSectionVars false
set_option maxRecDepth 100000
namespace Go.PT
open Go.RowKit
structure Fr (S : Nat → Prop) (w w' : World) : Prop where
  os : w'.os = w.os
  tape : w'.tape = w.tape
  output : w'.output = w.output
  size : w.heap.size ≤ w'.heap.size
  keep : ∀ b, b < w.heap.size → ¬ S b → w'.heap[b]? = w.heap[b]?
def No : Nat → Prop := fun _ => False
abbrev Ext := Fr No
theorem Fr.refl (S : Nat → Prop) (w : World) : Fr S w w := ⟨rfl, rfl, rfl, Nat.le_refl _, fun _ _ _ => rfl⟩
theorem Fr.to {S S' : Nat → Prop} {w w' : World} (h : Fr S w w') (hs : ∀ b, b < w.heap.size → S b → S' b) : Fr S' w w' := ⟨h.os, h.tape, h.output, h.size, fun b h1 h2 => h.keep b h1 (fun h3 => h2 (hs b h1 h3))⟩
theorem Ext.fr {S : Nat → Prop} {w w' : World} (h : Ext w w') : Fr S w w' := h.to (fun _ _ h => h.elim)
theorem Fr.trans' {S S' T : Nat → Prop} {a b c : World} (h : Fr S a b) (k : Fr S' b c) (h1 : ∀ x, x < a.heap.size → S x → T x) (h2 : ∀ x, x < a.heap.size → S' x → T x) : Fr T a c :=
  ⟨k.os.trans h.os, k.tape.trans h.tape, k.output.trans h.output, Nat.le_trans h.size k.size, fun x hx hn => (k.keep x (Nat.lt_of_lt_of_le hx h.size) (fun e => hn (h2 x hx e))).trans (h.keep x hx (fun e => hn (h1 x hx e)))⟩
theorem Fr.trans {S : Nat → Prop} {a b c : World} (h : Fr S a b) (k : Fr S b c) : Fr S a c := h.trans' k (fun _ _ h => h) (fun _ _ h => h)
theorem Fr.ext {S : Nat → Prop} {a b c : World} (h : Fr S a b) (k : Ext b c) : Fr S a c := h.trans k.fr
theorem Fr.drew {S : Nat → Prop} {a b : World} (h : Fr S a b) : Fr S a b.drew := h.trans ⟨rfl, rfl, rfl, Nat.le_refl _, fun _ _ _ => rfl⟩
theorem heap_alloc (w : World) (o : Obj) (b : Nat) (h : b < w.heap.size) : (w.alloc o).heap[b]? = w.heap[b]? := Below.heap_alloc w o b h
theorem heap_new (w : World) (o : Obj) : (w.alloc o).heap[w.heap.size]? = some o := by show (w.heap.push o)[w.heap.size]? = _; simp
theorem Fr.alloc {S : Nat → Prop} {a b : World} (h : Fr S a b) (o : Obj) : Fr S a (b.alloc o) := h.trans ⟨rfl, rfl, rfl, by simp, fun x hx _ => heap_alloc _ _ _ hx⟩
theorem Fr.set {S : Nat → Prop} {a b : World} (h : Fr S a b) {x o : Nat} (hx : a.heap.size ≤ x ∨ S x) (v : Value) : Fr S a (b.setCell ⟨x, o, none⟩ v) :=
  h.trans' (S' := fun y => y = x) ⟨rfl, rfl, rfl, by simp, fun y hy hn => Below.heap_setCell _ _ _ _ hn⟩ (fun _ _ h => h) (fun y hy e => by subst e; rcases hx with hx | hx; omega; exact hx)
theorem Fr.below {w w' : World} (h : Ext w w') : Below w.heap.size w w' := ⟨h.os, h.tape, h.output, h.size, fun k hk => h.keep k hk (fun e => e)⟩
theorem cell_lt {w : World} {b o : Nat} {v : Value} (h : w.cell? ⟨b, o, none⟩ = some v) : b < w.heap.size := World.block_lt_of_cell? _ _ h
theorem Fr.cell {S : Nat → Prop} {w w' : World} (h : Fr S w w') {b o : Nat} {v : Value} (hs : ¬ S b) (hc : w.cell? ⟨b, o, none⟩ = some v) : w'.cell? ⟨b, o, none⟩ = some v := by
  rw [World.cell?_of_block (w := w) (h.keep b (cell_lt hc) hs)]; exact hc
theorem Ext.cell {w w' : World} (h : Ext w w') {b o : Nat} {v : Value} (hc : w.cell? ⟨b, o, none⟩ = some v) : w'.cell? ⟨b, o, none⟩ = some v := Fr.cell h (fun e => e) hc
theorem cell_drew {w : World} {a : Addr} {v : Value} (h : w.cell? a = some v) : w.drew.cell? a = some v := h
theorem cell_new {w : World} {cs : Array Value} {t o : Nat} {v : Value} (h : cs[o]? = some v) : (w.alloc (.cells cs t)).cell? ⟨w.heap.size, o, none⟩ = some v := by
  rw [World.cell?_alloc_new]; exact h
theorem cell_put {w : World} {b o : Nat} {v u : Value} (h : w.cell? ⟨b, o, none⟩ = some u) : (w.setCell ⟨b, o, none⟩ v).cell? ⟨b, o, none⟩ = some v := World.cell?_setCell_same _ _ _ h
theorem cell_far {w : World} {b o b' o' : Nat} {v u : Value} (hn : b' ≠ b ∨ o' ≠ o) (h : w.cell? ⟨b, o, none⟩ = some u) : (w.setCell ⟨b', o', none⟩ v).cell? ⟨b, o, none⟩ = some u := by
  rw [World.cell?_setCell_other]; exact h
  intro e; injection e; rcases hn with hn | hn <;> exact hn (by assumption)
def Cells (w : World) (b o : Nat) (cs : List Value) : Prop := ∀ j c, cs[j]? = some c → w.cell? ⟨b, o + j, none⟩ = some c
theorem Cells.at {w : World} {b o : Nat} {cs : List Value} (h : Cells w b o cs) (j : Nat) {c : Value} (hj : cs[j]? = some c) : w.cell? ⟨b, o + j, none⟩ = some c := h j c hj
theorem Cells.ext {w w' : World} {b o : Nat} {cs : List Value} (h : Cells w b o cs) (e : Ext w w') : Cells w' b o cs := fun j c hj => Ext.cell e (h j c hj)
theorem Cells.fr {S : Nat → Prop} {w w' : World} {b o : Nat} {cs : List Value} (h : Cells w b o cs) (e : Fr S w w') (hs : ¬ S b) : Cells w' b o cs := fun j c hj => e.cell hs (h j c hj)
theorem Cells.drew {w : World} {b o : Nat} {cs : List Value} (h : Cells w b o cs) : Cells w.drew b o cs := h
abbrev Ok := World → List Nat → Nat → Nat → Prop
abbrev Lab := Nat → Option (List Nat)
def Any : Ok := fun w _ b _ => b < w.heap.size
def Own (L : Lab) : Ok := fun w p b m => L b = some p ∧ ∃ cs t, w.heap[b]? = some (.cells cs t (0, 0)) ∧ m ≤ cs.size
structure Kd (α : Type) where
  sz : Nat
  K : Ok → World → List Nat → α → List Value → Prop
  len : ∀ {ok w p a cs}, K ok w p a cs → cs.length = sz
  one : ∀ {ok w p a cs}, K ok w p a cs → ∀ v ∈ cs, v.oneCell' = true
  frame : ∀ {ok ok' : Ok} {w w' p q a cs}, K ok w p a cs → (∀ r b m, ok w (p ++ r) b m → (∀ o v, w.cell? ⟨b, o, none⟩ = some v → w'.cell? ⟨b, o, none⟩ = some v) ∧ ok' w' (q ++ r) b m) → K ok' w' q a cs
variable {α : Type}
theorem own_keep {L L' : Lab} {w w' : World} {S : Nat → Prop} (e : Fr S w w') {p q : List Nat} {b m : Nat} (h : Own L w p b m) (hs : ¬ S b) (hl : L' b = some q) :
    (∀ o v, w.cell? ⟨b, o, none⟩ = some v → w'.cell? ⟨b, o, none⟩ = some v) ∧ Own L' w' q b m := by
  obtain ⟨h1, cs, t, h2, h3⟩ := h
  have hb : b < w.heap.size := by rcases Nat.lt_or_ge b w.heap.size with hb | hb; exact hb; rw [Array.getElem?_eq_none hb] at h2; cases h2
  exact ⟨fun o v hc => e.cell hs hc, hl, cs, t, (e.keep b hb hs).trans h2, h3⟩
theorem Kd.own (kd : Kd α) {L L' : Lab} {w w' p q a cs} {S : Nat → Prop} (h : kd.K (Own L) w p a cs) (e : Fr S w w') (hs : ∀ b r, L b = some (p ++ r) → ¬ S b ∧ L' b = some (q ++ r)) : kd.K (Own L') w' q a cs :=
  kd.frame h (fun r b m ho => own_keep e ho (hs b r ho.1).1 (hs b r ho.1).2)
theorem own_lt {L : Lab} {w : World} {p : List Nat} {b m : Nat} (h : Own L w p b m) : b < w.heap.size := by
  obtain ⟨_, cs, t, h2, _⟩ := h
  rcases Nat.lt_or_ge b w.heap.size with hb | hb
  · exact hb
  · rw [Array.getElem?_eq_none hb] at h2; cases h2
theorem own_some {L : Lab} {w : World} {p : List Nat} {b m o : Nat} (h : Own L w p b m) (ho : o < m) : (w.cell? ⟨b, o, none⟩).isSome = true := by
  obtain ⟨_, cs, t, h2, h3⟩ := h
  unfold World.cell?
  simp [h2, Array.getElem?_eq_getElem (show o < cs.size by omega)]
theorem own_warm {L : Lab} {w : World} {p : List Nat} {b m o : Nat} (h : Own L w p b m) : w.frozen? ⟨b, o, none⟩ = false := by
  obtain ⟨_, cs, t, h2, h3⟩ := h
  unfold World.frozen?
  simp [h2]
def Kd.flat (sz : Nat) (f : α → List Value) (h1 : ∀ a, (f a).length = sz) (h2 : ∀ a, ∀ v ∈ f a, v.oneCell' = true) : Kd α where
  sz := sz
  K := fun _ _ _ a cs => cs = f a
  len := fun h => by rw [h]; exact h1 _
  one := fun h => by rw [h]; exact h2 _
  frame := fun h _ => h
def Sl (kd : Kd α) (ok : Ok) (w : World) (p : List Nat) (xs : List α) (v : Value) : Prop :=
  ∃ A cap, v = .slice A xs.length cap ∧ xs.length ≤ cap ∧ (cap = 0 ∨
    ∃ b o, A = some ⟨b, o, none⟩ ∧ ok w p b (o + cap * kd.sz) ∧ ∀ i x, xs[i]? = some x → ∃ es, kd.K ok w (p ++ [i]) x es ∧ Cells w b (o + i * kd.sz) es)
theorem Sl.frame {kd : Kd α} {ok ok' : Ok} {w w' p q} {xs : List α} {v} (h : Sl kd ok w p xs v)
    (hf : ∀ r b m, ok w (p ++ r) b m → (∀ o v, w.cell? ⟨b, o, none⟩ = some v → w'.cell? ⟨b, o, none⟩ = some v) ∧ ok' w' (q ++ r) b m) : Sl kd ok' w' q xs v := by
  obtain ⟨A, cap, h1, h2, h3⟩ := h
  refine ⟨A, cap, h1, h2, ?_⟩
  rcases h3 with h3 | ⟨b, o, h3, h4, h5⟩
  · exact .inl h3
  · have hb := hf [] b _ (by simpa using h4)
    refine .inr ⟨b, o, h3, by simpa using hb.2, fun i x hx => ?_⟩
    obtain ⟨es, k1, k2⟩ := h5 i x hx
    refine ⟨es, kd.frame k1 (fun r b m ho => ?_), fun j c hj => hb.1 _ _ (k2 j c hj)⟩
    rw [List.append_assoc] at ho ⊢
    exact hf _ b m ho
theorem Sl.ext {kd : Kd α} {w w' p} {xs : List α} {v} (h : Sl kd Any w p xs v) (e : Ext w w') : Sl kd Any w' p xs v := h.frame (fun r b m hb => ⟨fun o v hc => Ext.cell e hc, Nat.lt_of_lt_of_le hb e.size⟩)
theorem Sl.drew {kd : Kd α} {w p} {xs : List α} {v} (h : Sl kd Any w p xs v) : Sl kd Any w.drew p xs v := h.frame (fun r b m hb => ⟨fun o v hc => hc, hb⟩)
theorem Sl.any {kd : Kd α} {L w p q} {xs : List α} {v} (h : Sl kd (Own L) w p xs v) : Sl kd Any w q xs v := h.frame (fun r b m hb => ⟨fun o v hc => hc, own_lt hb⟩)
theorem Sl.own {kd : Kd α} {L L' : Lab} {w w' p q} {xs : List α} {v} {S : Nat → Prop} (h : Sl kd (Own L) w p xs v) (e : Fr S w w') (hs : ∀ b r, L b = some (p ++ r) → ¬ S b ∧ L' b = some (q ++ r)) : Sl kd (Own L') w' q xs v :=
  h.frame (fun r b m ho => own_keep e ho (hs b r ho.1).1 (hs b r ho.1).2)
theorem Sl.nil (kd : Kd α) (ok : Ok) (w : World) (p : List Nat) : Sl kd ok w p [] (.slice none 0 0) := ⟨none, 0, rfl, Nat.le_refl _, .inl rfl⟩
theorem Sl.one {kd : Kd α} {ok w p} {xs : List α} {v} (h : Sl kd ok w p xs v) : v.oneCell' = true := by obtain ⟨A, cap, rfl, _⟩ := h; rfl
theorem Sl.is {kd : Kd α} {ok w p} {xs : List α} {v} (h : Sl kd ok w p xs v) : ∃ A cap, v = .slice A xs.length cap := by obtain ⟨A, cap, h, _⟩ := h; exact ⟨A, cap, h⟩
theorem Sl.fresh {kd : Kd α} {ok : Ok} {w : World} {p : List Nat} {b o cap : Nat} (h : ok w p b (o + cap * kd.sz)) : Sl kd ok w p [] (.slice (some ⟨b, o, none⟩) 0 cap) :=
  ⟨_, cap, rfl, Nat.zero_le _, .inr ⟨b, o, rfl, h, fun i x hx => by simp at hx⟩⟩
def Off (S : Nat → Prop) : Ok := fun _ _ b _ => ¬ S b
theorem Sl.off {kd : Kd α} {S : Nat → Prop} {w w' p} {xs : List α} {v} (h : Sl kd (Off S) w p xs v) (e : Fr S w w') : Sl kd (Off S) w' p xs v := h.frame (fun r b m hb => ⟨fun o v hc => e.cell hb hc, hb⟩)
theorem Sl.offExt {kd : Kd α} {S : Nat → Prop} {w w' p} {xs : List α} {v} (h : Sl kd (Off S) w p xs v) (e : Ext w w') : Sl kd (Off S) w' p xs v := h.frame (fun r b m hb => ⟨fun o v hc => Ext.cell e hc, hb⟩)
theorem Sl.len_of {kd : Kd α} {ok w p} {xs : List α} {v} {k : Value → Prop} (h : Sl kd ok w p xs v) (hk : k (.int .i64 xs.length)) : lenT v k := by
  obtain ⟨A, cap, rfl, _⟩ := h; exact hk
theorem Sl.ix_of {kd : Kd α} {ok w p} {xs : List α} {v} {i : Int} {k : Value → Prop} {sz : Nat} (h : Sl kd ok w p xs v) (hz : sz = kd.sz) (h0 : 0 ≤ i) (h1 : i < xs.length)
    (hk : ∀ x b o es, xs[i.toNat]? = some x → kd.K ok w (p ++ [i.toNat]) x es → Cells w b o es → k (.pointer (some ⟨b, o, none⟩))) : ixaT sz v (.int .i64 i) k := by
  obtain ⟨A, cap, rfl, h2, h3⟩ := h
  have hi : i.toNat < xs.length := by omega
  rcases h3 with rfl | ⟨b, o, rfl, h4, h5⟩
  · omega
  · obtain ⟨es, k1, k2⟩ := h5 i.toNat xs[i.toNat] (by simp [hi])
    subst hz
    exact ⟨h0, h1, hk _ b _ es (by simp [hi]) k1 k2⟩
theorem rdN_of {w : World} {b o : Nat} : ∀ (cs : List Value) (i : Nat), (∀ j c, cs[j]? = some c → w.cell? ⟨b, o + (i + j), none⟩ = some c) → rdN w ⟨b, o, none⟩ cs.length i = some cs
  | [], i, _ => rfl
  | c :: cs, i, h => by
    have h0 := h 0 c rfl
    have hr := rdN_of cs (i + 1) (fun j d hj => by have := h (j + 1) d (by simpa using hj); rwa [show i + (j + 1) = i + 1 + j by omega] at this)
    simp only [List.length_cons, rdN]
    rw [show (Addr.add ⟨b, o, none⟩ i) = ⟨b, o + i, none⟩ from Addr.add_lit ..]
    rw [Nat.add_zero] at h0
    rw [h0, hr]
theorem lds_of {w : World} {b o n : Nat} {cs : List Value} {k : Value → Prop} (h : Cells w b o cs) (hn : n = cs.length) (hk : k (.agg cs.toArray)) : ldsT n (.pointer (some ⟨b, o, none⟩)) w k := by
  subst hn
  have e := rdN_of cs 0 (fun j c hj => by simpa using h j c hj)
  unfold ldsT
  simp only [e]
  exact hk
theorem ld_of {w : World} {a : Addr} {v : Value} {k : Value → Prop} (h : w.cell? a = some v) (hk : k v) : ldT (.pointer (some a)) w k := by
  unfold ldT; simp only [h]; exact hk
theorem fad_of {b o off : Nat} {k : Value → Prop} (hk : k (.pointer (some ⟨b, o + off, none⟩))) : fadT off (.pointer (some ⟨b, o, none⟩)) k := hk
theorem st_of {w : World} {b o : Nat} {u v : Value} {k : World → Prop} (h1 : v.oneCell' = true) (h2 : w.cell? ⟨b, o, none⟩ = some u) (h3 : w.frozen? ⟨b, o, none⟩ = false) (hk : k (w.setCell ⟨b, o, none⟩ v)) :
    stT (.pointer (some ⟨b, o, none⟩)) v w k := ⟨h1, by rw [h2]; rfl, h3, hk⟩
theorem nil_of {P : Program} {a : Addr} {k : Value → Prop} (hk : k (.pointer (some a))) : nilT P (.pointer (some a)) k := hk
theorem lenS_of {A : Option Addr} {n c : Nat} {k : Value → Prop} (hk : k (.int .i64 n)) : lenT (.slice A n c) k := hk
theorem cond_of {b : Bool} {A B : Prop} (h1 : b = true → A) (h2 : b = false → B) : condT (.bool b) A B := by cases b; exact h2 rfl; exact h1 rfl
theorem condP_of {p : Prop} [Decidable p] {A B : Prop} (h1 : p → A) (h2 : ¬ p → B) : condT (.bool (decide p)) A B := cond_of (fun h => h1 (of_decide_eq_true h)) (fun h => h2 (of_decide_eq_false h))
theorem condNe_of {a b : Int} {A B : Prop} (h1 : a ≠ b → A) (h2 : a = b → B) : condT (.bool (decide (a ≠ b))) A B := condP_of h1 (fun h => h2 (Decidable.not_not.mp h))
theorem condGt_of {a b : Int} {A B : Prop} (h1 : b < a → A) (h2 : a ≤ b → B) : condT (.bool (decide (a > b))) A B := condP_of h1 (fun h => h2 (Int.not_lt.mp h))
theorem condLt_of {a b : Int} {A B : Prop} (h1 : a < b → A) (h2 : b ≤ a → B) : condT (.bool (decide (a < b))) A B := condP_of h1 (fun h => h2 (Int.not_lt.mp h))
theorem condGe_of {a b : Int} {A B : Prop} (h1 : b ≤ a → A) (h2 : a < b → B) : condT (.bool (decide (a ≥ b))) A B := condP_of h1 (fun h => h2 (Int.not_le.mp h))
theorem condP_t {p : Prop} [Decidable p] {A B : Prop} (h : p) (hA : A) : condT (.bool (decide p)) A B := by rw [decide_eq_true h]; exact hA
theorem condP_f {p : Prop} [Decidable p] {A B : Prop} (h : ¬ p) (hB : B) : condT (.bool (decide p)) A B := by rw [decide_eq_false h]; exact hB
theorem condN_of {b : Bool} {A B : Prop} (h1 : b = false → A) (h2 : b = true → B) : condT (.bool (!b)) A B := by cases b; exact h1 rfl; exact h2 rfl
theorem condT_true {A B : Prop} (h : A) : condT (.bool true) A B := h
theorem condT_false {A B : Prop} (h : B) : condT (.bool false) A B := h
theorem not_of {b : Bool} {k : Value → Prop} (hk : k (.bool (!b))) : notT (.bool b) k := hk
theorem ext_of {vs : Array Value} {i : Nat} {v : Value} {k : Value → Prop} (h : vs[i]? = some v) (hk : k v) : extT (.tuple vs) i k := by unfold extT; simp only [h]; exact hk
theorem i64_wrap (n : Int) (h : -9223372036854775808 ≤ n) (h' : n ≤ 9223372036854775807) : IntKind.i64.wrap n = n := by
  rw [IntKind.wrap_i64]; omega
theorem add_of {a b : Int} {k : Value → Prop} (h : -9223372036854775808 ≤ a + b) (h' : a + b ≤ 9223372036854775807) (hk : k (.int .i64 (a + b))) : binT .add (.int .i64 a) (.int .i64 b) k := by
  refine ⟨rfl, ?_⟩; simp only [binI]; rw [i64_wrap _ h h']; exact hk
theorem sub_of {a b : Int} {k : Value → Prop} (h : -9223372036854775808 ≤ a - b) (h' : a - b ≤ 9223372036854775807) (hk : k (.int .i64 (a - b))) : binT .sub (.int .i64 a) (.int .i64 b) k := by
  refine ⟨rfl, ?_⟩; simp only [binI]; rw [i64_wrap _ h h']; exact hk
theorem mul_of {a b : Int} {k : Value → Prop} (h : -9223372036854775808 ≤ a * b) (h' : a * b ≤ 9223372036854775807) (hk : k (.int .i64 (a * b))) : binT .mul (.int .i64 a) (.int .i64 b) k := by
  refine ⟨rfl, ?_⟩; simp only [binI]; rw [i64_wrap _ h h']; exact hk
theorem lss_of {x : IntKind} {a b : Int} {k : Value → Prop} (hk : k (.bool (decide (a < b)))) : binT .lss (.int x a) (.int x b) k := ⟨rfl, hk⟩
theorem leq_of {x : IntKind} {a b : Int} {k : Value → Prop} (hk : k (.bool (decide (a ≤ b)))) : binT .leq (.int x a) (.int x b) k := ⟨rfl, hk⟩
theorem gtr_of {x : IntKind} {a b : Int} {k : Value → Prop} (hk : k (.bool (decide (a > b)))) : binT .gtr (.int x a) (.int x b) k := ⟨rfl, hk⟩
theorem geq_of {x : IntKind} {a b : Int} {k : Value → Prop} (hk : k (.bool (decide (a ≥ b)))) : binT .geq (.int x a) (.int x b) k := ⟨rfl, hk⟩
theorem eql_of {x : IntKind} {a b : Int} {k : Value → Prop} (hk : k (.bool (decide (a = b)))) : binT .eql (.int x a) (.int x b) k := by
  refine ⟨rfl, ?_⟩; simp only [binI]; have : (a == b) = decide (a = b) := by rw [Bool.eq_iff_iff]; simp
  rw [this]; exact hk
theorem neq_of {x : IntKind} {a b : Int} {k : Value → Prop} (hk : k (.bool (decide (a ≠ b)))) : binT .neq (.int x a) (.int x b) k := by
  refine ⟨rfl, ?_⟩; simp only [binI]; have : (a != b) = decide (a ≠ b) := by rw [Bool.eq_iff_iff]; simp
  rw [this]; exact hk
theorem quo_of {a b : Int} {k : Value → Prop} (h0 : b ≠ 0) (h : -9223372036854775808 ≤ a.tdiv b) (h' : a.tdiv b ≤ 9223372036854775807) (hk : k (.int .i64 (a.tdiv b))) : binT .quo (.int .i64 a) (.int .i64 b) k := by
  refine ⟨rfl, ?_⟩; simp only [binI, if_neg h0]; rw [i64_wrap _ h h']; exact hk
theorem rem_of {a b : Int} {k : Value → Prop} (h0 : b ≠ 0) (hk : k (.int .i64 (a.tmod b))) : binT .rem (.int .i64 a) (.int .i64 b) k := by
  refine ⟨rfl, ?_⟩; simp only [binI, if_neg h0]; exact hk
theorem xor_of {a b : Int} {k : Value → Prop} (hk : k (.int .i64 (bits .xor .i64 a b))) : binT .xor (.int .i64 a) (.int .i64 b) k := ⟨rfl, hk⟩
theorem cvi_of {x : IntKind} {n : Int} {k : Value → Prop} (hk : k (.int .i64 (IntKind.i64.wrap n))) : cviT .i64 (.int x n) k := hk
theorem loop_of {B : List Value → World → LW → LW → LW → Prop} {Kb Kr : LW} (I : Nat → List Value → World → Prop)
    (h : ∀ m s w Kn, I m s w → (∀ m' s' w', m' < m → I m' s' w' → Kn s' w') → B s w Kn Kb Kr) {m : Nat} {s : List Value} {w : World} (h0 : I m s w) : loopT B s w Kb Kr := by
  refine ⟨m + 1, ?_⟩
  have key : ∀ n m s w, m < n → I m s w → iterT B Kb Kr n s w := by
    intro n
    induction n with
    | zero => intro m s w hm; omega
    | succ n ih => intro m s w hm hI; exact h m s w _ hI (fun m' s' w' hm' hI' => ih m' s' w' (by omega) hI')
  exact key _ _ _ _ (Nat.lt_succ_self m) h0
def appB (P : Program) (t e sz : Nat) : Bool :=
  (match P.underlying t with | some (.slice e') => Nat.beq e' e | _ => false) &&
  (match P.info? e with | some i => Nat.beq i.size sz && Nat.ble i.bytes 1024 && (match i.zero with | some z => Nat.beq z.cells.size sz | none => false) | none => false)
theorem appB_of {P : Program} {t e sz : Nat} (h : appB P t e sz = true) : P.underlying t = some (.slice e) ∧ ∃ i z, P.info? e = some i ∧ i.size = sz ∧ i.bytes ≤ 1024 ∧ i.zero = some z ∧ z.cells.size = sz := by
  unfold appB at h
  rw [Bool.and_eq_true] at h
  obtain ⟨h1, h2⟩ := h
  constructor
  · split at h1
    · rename_i e' he; rw [he, Nat.eq_of_beq_eq_true h1]
    · cases h1
  · split at h2
    · rename_i i hi
      rw [Bool.and_eq_true, Bool.and_eq_true] at h2
      obtain ⟨⟨h3, h4⟩, h5⟩ := h2
      split at h5
      · rename_i z hz
        exact ⟨i, z, hi, Nat.eq_of_beq_eq_true h3, Nat.le_of_ble_eq_true h4, hz, Nat.eq_of_beq_eq_true h5⟩
      · cases h5
    · cases h2
def Lx (p : List Nat) (w : World) (L L' : Lab) : Prop := ∀ b, L' b = L b ∨ (w.heap.size ≤ b ∧ L' b = some p)
def Lim (L : Lab) (w : World) : Prop := ∀ b p, L b = some p → b < w.heap.size
theorem Lx.old {p : List Nat} {w : World} {L L' : Lab} (h : Lx p w L L') {b : Nat} (hb : b < w.heap.size) : L' b = L b := by rcases h b with h | h; exact h; omega
theorem Lx.lab {p q : List Nat} {w : World} {L L' : Lab} (h : Lx p w L L') (hL : Lim L w) {b : Nat} (hb : L b = some q) : L' b = some q := (h.old (hL b q hb)).trans hb
theorem heap_setCells (b : Nat) : ∀ (vs : List Value) (o : Nat) (w : World), (∀ x, x ≠ b → (w.setCells b o vs).heap[x]? = w.heap[x]?) ∧ (w.setCells b o vs).heap.size = w.heap.size ∧ (w.setCells b o vs).os = w.os ∧ (w.setCells b o vs).tape = w.tape ∧ (w.setCells b o vs).output = w.output ∧
    (∀ cs t fr, w.heap[b]? = some (.cells cs t fr) → ∃ cs', (w.setCells b o vs).heap[b]? = some (.cells cs' t fr) ∧ cs'.size = cs.size)
  | [], o, w => ⟨fun _ _ => rfl, rfl, rfl, rfl, rfl, fun cs t fr h => ⟨cs, h, rfl⟩⟩
  | v :: vs, o, w => by
    obtain ⟨h1, h2, h3, h4, h5, h6⟩ := heap_setCells b vs (o + 1) (w.setCell ⟨b, o, none⟩ v)
    refine ⟨fun x hx => (h1 x hx).trans (Below.heap_setCell _ _ _ _ hx), h2.trans (by simp), h3, h4, h5, fun cs t fr h => ?_⟩
    obtain ⟨cs', k1, k2⟩ := h6 (cs.setIfInBounds o v) t fr (by simp [World.setCell, Array.getElem?_modify, h])
    exact ⟨cs', k1, by rw [k2]; simp⟩
theorem Fr.sets {w : World} {b o : Nat} {vs : List Value} : Fr (fun x => x = b) w (w.setCells b o vs) := by
  obtain ⟨h1, h2, h3, h4, h5, _⟩ := heap_setCells b vs o w
  exact ⟨h3, h4, h5, by omega, fun x _ hx => h1 x hx⟩
theorem Sl.head {kd : Kd α} {ok : Ok} {w : World} {p : List Nat} {xs ys : List α} {A : Option Addr} {n cap : Nat} (h : Sl kd ok w p (xs ++ ys) (.slice A n cap)) : Sl kd ok w p xs (.slice A xs.length cap) := by
  obtain ⟨A', cap', e, h2, h3⟩ := h
  injection e with e1 e2 e3
  subst e1 e3
  rw [List.length_append] at h2
  refine ⟨A, cap, rfl, by omega, ?_⟩
  rcases h3 with h3 | ⟨b, o, h3, h4, h5⟩
  · exact .inl h3
  · exact .inr ⟨b, o, h3, h4, fun i x hx => h5 i x (by rw [List.getElem?_append_left (List.getElem?_eq_some_iff.mp hx).1]; exact hx)⟩
theorem app_of2 {P : Program} {t tx ty e : Nat} {kd : Kd α} {L : Lab} {w : World} {p : List Nat} {xs ys : List α} {v x : Value} {news : List Value} {k : VW}
    (hc : appB P t e kd.sz = true) (hv : Sl kd (Own L) w p xs v) (hx : Src P kd.sz tx x ys.length news w)
    (hy : ∀ j y, ys[j]? = some y → ∃ es, kd.K (Own L) w (p ++ [xs.length + j]) y es ∧ ∀ i c, es[i]? = some c → news[j * kd.sz + i]? = some c)
    (hn : xs.length + ys.length ≤ 1073741824) (hL : Lim L w)
    (hk : ∀ v' w' L', Fr (fun b => L b = some p) w w' → Lx p w L L' → Lim L' w' → Sl kd (Own L') w' p xs v → Sl kd (Own L') w' p (xs ++ ys) v' → k v' w') : opT P (Builtin.append_ #[t, tx] ty #[v, x]) w k := by
  obtain ⟨ht, i, z, hi, hsz, hby, hz, hzs⟩ := appB_of hc
  have hx' := hx
  rw [← hsz] at hx'
  have hnl : news.length = ys.length * kd.sz := hx.newsLen
  obtain ⟨A, cap, rfl, hcap, hA⟩ := hv
  by_cases hroom : xs.length + ys.length ≤ cap
  · rcases hA with rfl | ⟨b, o, rfl, ho, hel⟩
    · have hxs : xs = [] := List.length_eq_zero_iff.mp (by omega)
      have hys : ys = [] := List.length_eq_zero_iff.mp (by omega)
      subst hxs hys
      have hnews : news = [] := List.length_eq_zero_iff.mp (by rw [hnl]; simp)
      subst hnews
      unfold opT
      have hrun := run_append_nothing w t tx ty e i ht hi A 0 0 (Nat.le_refl _) x hx'
      simp only [List.length_nil, hrun]
      exact hk _ _ L (Fr.refl _ _) (fun b => .inl rfl) hL ⟨A, 0, rfl, Nat.le_refl _, .inl rfl⟩ ⟨A, 0, rfl, Nat.le_refl _, .inl rfl⟩
    · have hcell : ∀ j, j < news.length → (w.cell? ⟨b, o + xs.length * kd.sz + j, none⟩).isSome = true := fun j hj => own_some ho (by
        have : (xs.length + ys.length) * kd.sz ≤ cap * kd.sz := Nat.mul_le_mul_right _ hroom
        rw [Nat.add_mul] at this; omega)
      have hrun := run_append_room_src (P := P) w t tx ty e i ht hi b o xs.length cap x ys.length news hx' hroom (by rw [hsz]; exact hcell) (fun j hj => own_warm ho)
      rw [hsz] at hrun
      unfold opT
      simp only [hrun]
      have hfr : Fr (fun c => L c = some p) w (w.setCells b (o + xs.length * kd.sz) news) := Fr.sets.to (fun c _ e => by subst e; exact ho.1)
      have hlab : ∀ (n : Nat) (c : Nat) (r : List Nat), L c = some (p ++ [n] ++ r) → ¬ (L c = some p) ∧ L c = some (p ++ [n] ++ r) := fun n c r hc => ⟨fun e => by
        rw [e] at hc; have := congrArg List.length (Option.some.inj hc); simp at this, hc⟩
      refine (fun (hs : Sl kd (Own L) _ p (xs ++ ys) (.slice (some ⟨b, o, none⟩) (xs.length + ys.length) cap)) => hk _ _ L hfr (fun b => .inl rfl) (fun c q hc => Nat.lt_of_lt_of_le (hL c q hc) hfr.size) (Sl.head hs) hs) ⟨_, cap, by rw [List.length_append], by rw [List.length_append]; omega, .inr ⟨b, o, rfl, ?_, ?_⟩⟩
      · obtain ⟨hl, cs, t', h2, h3⟩ := ho
        obtain ⟨cs', k1, k2⟩ := (heap_setCells b news (o + xs.length * kd.sz) w).2.2.2.2.2 cs t' _ h2
        exact ⟨hl, cs', t', k1, by omega⟩
      · intro n y hny
        rcases Nat.lt_or_ge n xs.length with hlt | hge
        · rw [List.getElem?_append_left hlt] at hny
          obtain ⟨es, k1, k2⟩ := hel n y hny
          refine ⟨es, kd.own k1 hfr (hlab n), fun j c hj => ?_⟩
          have hjl : j < kd.sz := by
            rw [← kd.len k1]; exact (List.getElem?_eq_some_iff.mp hj).1
          rw [World.cell?_setCells_out b news _ w _ (fun _ _ => .inl ?_)]
          · exact k2 j c hj
          · have : (n + 1) * kd.sz ≤ xs.length * kd.sz := Nat.mul_le_mul_right _ hlt
            rw [Nat.add_mul] at this
            show o + n * kd.sz + j < o + xs.length * kd.sz
            omega
        · rw [List.getElem?_append_right hge] at hny
          obtain ⟨es, k1, k2⟩ := hy _ y hny
          rw [show xs.length + (n - xs.length) = n by omega] at k1
          refine ⟨es, kd.own k1 hfr (hlab n), fun j c hj => ?_⟩
          have := k2 j c hj
          obtain ⟨hl, hc⟩ := List.getElem?_eq_some_iff.mp this
          have := World.cell?_setCells_in b news (o + xs.length * kd.sz) w hcell _ hl
          rw [hc] at this
          rw [← this]
          congr 2
          have : n * kd.sz = xs.length * kd.sz + (n - xs.length) * kd.sz := by rw [← Nat.add_mul]; congr 1; omega
          omega
  · -- a new row
    have hg : cap < xs.length + ys.length := by omega
    have hA' : ∃ olds : List Value, olds.length = xs.length * kd.sz ∧ (Builtin.firstCells kd.sz xs.length (.slice A xs.length cap)).run P w.drew = .ok olds.toArray w.drew ∧
        ∀ n y, xs[n]? = some y → ∃ es, kd.K (Own L) w (p ++ [n]) y es ∧ ∀ j c, es[j]? = some c → olds[n * kd.sz + j]? = some c := by
      rcases hA with rfl | ⟨b, o, rfl, ho, hel⟩
      · have hxs : xs = [] := List.length_eq_zero_iff.mp (by omega)
        subst hxs
        refine ⟨[], by simp, ?_, fun n y hn => by simp at hn⟩
        cases A with
        | none => exact run_firstCells_none w.drew _ _ _ _
        | some a => exact run_firstCells_some w.drew kd.sz 0 a 0 0 [] (by simp) (fun j u hj => by simp at hj)
      · refine ⟨(List.range (xs.length * kd.sz)).map (fun j => (w.cell? ⟨b, o + j, none⟩).getD undef), by simp, ?_, ?_⟩
        · refine run_firstCells_some w.drew kd.sz xs.length ⟨b, o, none⟩ xs.length cap _ (by simp) (fun j u hj => ?_)
          rw [List.getElem?_map] at hj
          by_cases hjl : j < xs.length * kd.sz
          · rw [List.getElem?_range hjl] at hj
            simp only [Option.map_some, Option.some.injEq] at hj
            have := own_some (o := o + j) ho (by have : xs.length * kd.sz ≤ cap * kd.sz := Nat.mul_le_mul_right _ hcap
                                                 omega)
            rw [Addr.add_lit]
            show w.cell? _ = _
            obtain ⟨u', hu'⟩ := Option.isSome_iff_exists.1 this
            rw [hu'] at hj ⊢
            simpa using hj
          · rw [List.getElem?_eq_none (by simp; omega)] at hj; cases hj
        · intro n y hny
          obtain ⟨es, k1, k2⟩ := hel n y hny
          refine ⟨es, k1, fun j c hj => ?_⟩
          have hjl : j < kd.sz := by rw [← kd.len k1]; exact (List.getElem?_eq_some_iff.mp hj).1
          have hlt : n < xs.length := (List.getElem?_eq_some_iff.mp hny).1
          have h1 : (n + 1) * kd.sz ≤ xs.length * kd.sz := Nat.mul_le_mul_right _ hlt
          rw [Nat.add_mul] at h1
          rw [List.getElem?_map, List.getElem?_range (by omega), Option.map_some]
          have := k2 j c hj
          rw [show o + (n * kd.sz + j) = o + n * kd.sz + j by omega, this]; rfl
    obtain ⟨olds, hol, hold, hoe⟩ := hA'
    have hfit : Builtin.nextslicecap (xs.length + ys.length) cap * i.bytes ≤ 281474976710656 := growslice_fits hg (Nat.le_trans (Nat.mul_le_mul hn hby) (by decide))
    have hrun := run_append_grow_src (P := P) w t tx ty e i z ht hi hz A xs.length cap olds (by rw [hsz]; exact hold) x ys.length news hx' hg (by omega) hfit
    unfold opT
    rw [hrun]
    generalize hgc : grownCap w (xs.length + ys.length) cap e = gc
    have hgc' : xs.length + ys.length ≤ gc := by rw [← hgc]; exact grownCap_ge ..
    have hfr : Ext w (w.drew.alloc (.cells ((olds ++ news).toArray ++ Builtin.zeroCells z.cells (gc - (xs.length + ys.length))) e)) := ((Fr.refl _ _).drew).alloc _
    have hL' : ∀ c q, L c = some q → (fun c => if c = w.heap.size then some p else L c) c = some q := fun c q hc => by
      have := hL c q hc
      show (if _ then _ else _) = _
      rw [if_neg (by omega)]; exact hc
    refine hk _ _ (fun c => if c = w.heap.size then some p else L c) hfr.fr (fun c => ?_) (fun c q hc => ?_) (Sl.own (L := L) ⟨A, cap, rfl, hcap, hA⟩ hfr (fun c r hc => ⟨fun e => e, hL' _ _ hc⟩)) ⟨_, gc, by rw [List.length_append], by rw [List.length_append]; omega, .inr ⟨w.heap.size, 0, rfl, ⟨by simp, ?_⟩, ?_⟩⟩
    · by_cases hcw : c = w.heap.size
      · exact .inr ⟨by omega, by simp [hcw]⟩
      · exact .inl (by simp [hcw])
    · by_cases hcw : c = w.heap.size
      · subst hcw; simp
      · simp only [hcw, if_false] at hc
        have := hL c q hc
        simp; omega
    · refine ⟨_, e, heap_new _ _, ?_⟩
      simp only [Array.size_append, List.size_toArray, List.length_append, size_zeroCells, hzs, hol, hnl]
      rw [← Nat.add_mul, ← Nat.add_mul, show xs.length + ys.length + (gc - (xs.length + ys.length)) = gc by omega]
      omega
    · have hcells : ∀ n j c, (olds ++ news)[n + j]? = some c → (w.drew.alloc (.cells ((olds ++ news).toArray ++ Builtin.zeroCells z.cells (gc - (xs.length + ys.length))) e)).cell? ⟨w.heap.size, 0 + n + j, none⟩ = some c := by
        intro n j c hc
        have hlt := (List.getElem?_eq_some_iff.mp hc).1
        refine cell_new (w := w.drew) ?_
        rw [Nat.zero_add, Array.getElem?_append_left (by simpa using hlt)]
        simpa using hc
      intro n y hny
      rcases Nat.lt_or_ge n xs.length with hlt | hge
      · rw [List.getElem?_append_left hlt] at hny
        obtain ⟨es, k1, k2⟩ := hoe n y hny
        refine ⟨es, kd.own k1 hfr (fun c r hc => ⟨fun e => e, hL' _ _ hc⟩), fun j c hj => hcells _ j c ?_⟩
        have := k2 j c hj
        rw [List.getElem?_append_left (List.getElem?_eq_some_iff.mp this).1]; exact this
      · rw [List.getElem?_append_right hge] at hny
        obtain ⟨es, k1, k2⟩ := hy _ y hny
        rw [show xs.length + (n - xs.length) = n by omega] at k1
        refine ⟨es, kd.own k1 hfr (fun c r hc => ⟨fun e => e, hL' _ _ hc⟩), fun j c hj => hcells _ j c ?_⟩
        have := k2 j c hj
        have h2 : n * kd.sz = olds.length + (n - xs.length) * kd.sz := by rw [hol, ← Nat.add_mul]; congr 1; omega
        rw [h2, Nat.add_assoc, List.getElem?_append_right (by omega), show olds.length + ((n - xs.length) * kd.sz + j) - olds.length = (n - xs.length) * kd.sz + j by omega]
        exact this
theorem app_of {P : Program} {t tx ty e : Nat} {kd : Kd α} {L : Lab} {w : World} {p : List Nat} {xs ys : List α} {v x : Value} {news : List Value} {k : VW}
    (hc : appB P t e kd.sz = true) (hv : Sl kd (Own L) w p xs v) (hx : Src P kd.sz tx x ys.length news w)
    (hy : ∀ j y, ys[j]? = some y → ∃ es, kd.K (Own L) w (p ++ [xs.length + j]) y es ∧ ∀ i c, es[i]? = some c → news[j * kd.sz + i]? = some c)
    (hn : xs.length + ys.length ≤ 1073741824) (hL : Lim L w)
    (hk : ∀ v' w' L', Fr (fun b => L b = some p) w w' → Lx p w L L' → Lim L' w' → Sl kd (Own L') w' p (xs ++ ys) v' → k v' w') : opT P (Builtin.append_ #[t, tx] ty #[v, x]) w k :=
  app_of2 hc hv hx hy hn hL (fun v' w' L' a b c _ d => hk v' w' L' a b c d)
def Free (ok : Ok) : Prop := ∀ w p q b m m', ok w p b m → ok w q b m'
theorem free_any : Free Any := fun _ _ _ _ _ _ h => h
theorem Sl.re {kd : Kd α} {w p q} {xs : List α} {v} (h : Sl kd Any w p xs v) : Sl kd Any w q xs v := h.frame (fun r b m hb => ⟨fun _ _ h => h, hb⟩)
theorem Kd.free (kd : Kd α) {ok : Ok} (hf : Free ok) {w p q a cs} (h : kd.K ok w p a cs) : kd.K ok w q a cs := kd.frame h (fun r b m hb => ⟨fun _ _ h => h, hf _ _ _ _ _ _ hb⟩)
theorem Sl.free {kd : Kd α} {ok : Ok} (hf : Free ok) {w p q} {xs : List α} {v} (h : Sl kd ok w p xs v) : Sl kd ok w q xs v := h.frame (fun r b m hb => ⟨fun _ _ h => h, hf _ _ _ _ _ _ hb⟩)
theorem Sl.cut {kd : Kd α} {ok : Ok} (hf : Free ok) {w p q} {xs : List α} {A cap} (h : Sl kd ok w p xs (.slice A xs.length cap)) {l m : Nat} (hl : l ≤ m) (hm : m ≤ xs.length) :
    Sl kd ok w q ((xs.take m).drop l) (sliced A l m cap kd.sz) := by
  obtain ⟨A', cap', h1, h2, h3⟩ := h
  injection h1 with e1 e2 e3
  subst e1 e3
  have hlen : ((xs.take m).drop l).length = m - l := by rw [List.length_drop, List.length_take]; omega
  rcases h3 with rfl | ⟨b, o, rfl, h4, h5⟩
  · have hx : l = 0 := by omega
    subst hx
    exact ⟨A, 0, by rw [hlen]; simp [sliced], by omega, .inl rfl⟩
  · by_cases hc : cap = l
    · have he : (xs.take m).drop l = [] := List.length_eq_zero_iff.mp (by omega)
      refine ⟨some ⟨b, o, none⟩, cap - l, by rw [hlen]; simp [sliced, hc], by omega, .inr ⟨b, o, rfl, hf _ _ _ _ _ _ h4, ?_⟩⟩
      intro i x hx
      rw [he] at hx; simp at hx
    · refine ⟨some ⟨b, o + l * kd.sz, none⟩, cap - l, by rw [hlen]; simp [sliced, hc, Addr.add_lit], by omega, .inr ⟨b, o + l * kd.sz, rfl, hf _ _ _ _ _ _ h4, ?_⟩⟩
      intro i x hx
      rw [List.getElem?_drop, List.getElem?_take] at hx
      split at hx
      · obtain ⟨es, k1, k2⟩ := h5 _ x hx
        refine ⟨es, kd.free hf k1, ?_⟩
        rw [show o + l * kd.sz + i * kd.sz = o + (l + i) * kd.sz by rw [Nat.add_mul]; omega]
        exact k2
      · cases hx
theorem slice_run {P : Program} {t e sz : Nat} (hc : appB P t e sz = true) : P.underlying t = some (.slice (P.elem t)) ∧ ∀ w : World, (sizeOf (P.elem t)).run P w = .ok sz w := by
  obtain ⟨ht, i, z, hi, hsz, _⟩ := appB_of hc
  have he : P.elem t = e := by simp [Program.elem, ht]
  rw [he]
  exact ⟨ht, fun w => by simp [sizeOf, typeInfo, hi, hsz]⟩
theorem sll_of {P : Program} {t e : Nat} {kd : Kd α} {ok : Ok} {w : World} {p q : List Nat} {xs : List α} {v : Value} {l : Int} {k : VW} (hc : appB P t e kd.sz = true) (hf : Free ok) (hv : Sl kd ok w p xs v)
    (h0 : 0 ≤ l) (h1 : l ≤ xs.length) (hk : ∀ v', Sl kd ok w q (xs.drop l.toNat) v' → k v' w) : opT P (Instr.sliceAt t v (some (.int .i64 l)) none none) w k := by
  obtain ⟨A, cap, rfl⟩ := hv.is
  obtain ⟨ht, hs⟩ := slice_run hc
  unfold opT
  simp only [run_sliceAt_slice w t _ _ _ _ ht, run_slice_l w t A xs.length cap ht .i64 l h0 (by omega), hs, Result.andThen_ok]
  have := hv.cut (q := q) hf (l := l.toNat) (m := xs.length) (by omega) (Nat.le_refl _)
  rw [List.take_length] at this
  exact hk _ this
theorem slr_of {P : Program} {t e : Nat} {kd : Kd α} {ok : Ok} {w : World} {p q : List Nat} {xs : List α} {v : Value} {h : Int} {k : VW} (hc : appB P t e kd.sz = true) (hf : Free ok) (hv : Sl kd ok w p xs v)
    (h0 : 0 ≤ h) (h2 : h ≤ xs.length) (hk : ∀ v', Sl kd ok w q (xs.take h.toNat) v' → k v' w) : opT P (Instr.sliceAt t v none (some (.int .i64 h)) none) w k := by
  obtain ⟨A, cap, rfl, hcap⟩ := hv.is.elim fun A h => h.elim fun c h => (⟨A, c, h, by obtain ⟨A', c', e, h3, _⟩ := hv; rw [h] at e; injection e with _ _ e; omega⟩ : ∃ A cap, v = .slice A xs.length cap ∧ xs.length ≤ cap)
  obtain ⟨ht, hs⟩ := slice_run hc
  unfold opT
  simp only [run_sliceAt_slice w t _ _ _ _ ht, run_slice_h w t A xs.length cap ht .i64 h h0 (by omega), hs, Result.andThen_ok]
  exact hk _ (hv.cut hf (by omega) (by omega))
theorem src_row {P : Program} {t e sz : Nat} (hc : appB P t e sz = true) {w : World} {b o n c : Nat} {news : List Value} (hl : news.length = n * sz) (hn : Cells w b o news) (h1 : ∀ u ∈ news, u.oneCell' = true) :
    Src P sz t (.slice (some ⟨b, o, none⟩) n c) n news w := by
  obtain ⟨ht, _⟩ := appB_of hc
  exact Src.ofSlice w ht _ n c news hl (fun j u hj => by rw [Addr.add_lit]; exact hn j u hj) h1
theorem Sl.src {P : Program} {t e : Nat} {kd : Kd α} {ok : Ok} {w : World} {p : List Nat} {xs : List α} {v : Value} (hc : appB P t e kd.sz = true) (h : Sl kd ok w p xs v) :
    ∃ news, Src P kd.sz t v xs.length news w ∧ ∀ j y, xs[j]? = some y → ∃ es, kd.K ok w (p ++ [j]) y es ∧ ∀ i c, es[i]? = some c → news[j * kd.sz + i]? = some c := by
  obtain ⟨ht, _⟩ := appB_of hc
  obtain ⟨A, cap, rfl, hcap, h3⟩ := h
  rcases h3 with rfl | ⟨b, o, rfl, h4, h5⟩
  · have hx : xs = [] := List.length_eq_zero_iff.mp (by omega)
    subst hx
    refine ⟨[], ?_, fun j y hj => by simp at hj⟩
    cases A with
    | none => exact Src.ofNil w ht 0
    | some a => exact Src.ofSlice w ht a 0 0 [] (by simp) (fun j u hj => by simp at hj) (fun u hu => by simp at hu)
  · -- the elements' cells, one behind the other
    have key : ∀ (n : Nat), n ≤ xs.length → ∃ news : List Value, news.length = n * kd.sz ∧ Cells w b o news ∧ (∀ u ∈ news, u.oneCell' = true) ∧
        ∀ j y, j < n → xs[j]? = some y → ∃ es, kd.K ok w (p ++ [j]) y es ∧ ∀ i c, es[i]? = some c → news[j * kd.sz + i]? = some c := by
      intro n
      induction n with
      | zero => exact fun _ => ⟨[], by simp, fun j c hj => by simp at hj, fun u hu => by simp at hu, fun j y hj => by omega⟩
      | succ n ih =>
        intro hn
        obtain ⟨news, a1, a2, a3, a4⟩ := ih (by omega)
        obtain ⟨es, k1, k2⟩ := h5 n xs[n] (by simp)
        have hes := kd.len k1
        refine ⟨news ++ es, by rw [List.length_append, a1, hes, Nat.add_mul, Nat.one_mul], fun j c hj => ?_, fun u hu => ?_, fun j y hj hy => ?_⟩
        · rcases Nat.lt_or_ge j news.length with hlt | hge
          · rw [List.getElem?_append_left hlt] at hj; exact a2 j c hj
          · rw [List.getElem?_append_right hge] at hj
            have := k2 _ c hj
            rwa [show o + n * kd.sz + (j - news.length) = o + j by omega] at this
        · rcases List.mem_append.mp hu with hu | hu
          · exact a3 u hu
          · exact kd.one k1 u hu
        · rcases Nat.lt_or_ge j n with hlt | hge
          · obtain ⟨fs, b1, b2⟩ := a4 j y hlt hy
            refine ⟨fs, b1, fun i c hi => ?_⟩
            have := b2 i c hi
            rw [List.getElem?_append_left (List.getElem?_eq_some_iff.mp this).1]; exact this
          · have : j = n := by omega
            subst this
            have hy' : xs[j] = y := (List.getElem?_eq_some_iff.mp hy).2
            subst hy'
            refine ⟨es, k1, fun i c hi => ?_⟩
            rw [List.getElem?_append_right (by omega), show j * kd.sz + i - news.length = i by omega]; exact hi
    obtain ⟨news, a1, a2, a3, a4⟩ := key xs.length (Nat.le_refl _)
    exact ⟨news, src_row hc a1 a2 a3, fun j y hj => a4 j y (List.getElem?_eq_some_iff.mp hj).1 hj⟩
theorem bld_of {z : Array Value} {parts : List (Nat × Nat × Value)} {cs : Array Value} {k : Value → Prop} (h : fillT z parts = some cs) (hk : k (.agg cs)) : bldT z parts k := by
  unfold bldT; simp only [h]; exact hk
def full (sz : Nat) : Nat → List Value → List (Nat × Nat × Value)
  | _, [] => []
  | o, v :: vs => (o, sz, v) :: full sz (o + sz) vs
def flat (vs : List Value) : List Value := (vs.map fun v => v.cells.toList).flatten
theorem splice_eq (pre vs mid post : List Value) (h : mid.length = vs.length) : splice (pre ++ mid ++ post).toArray pre.length vs.toArray = (pre ++ vs ++ post).toArray := by
  unfold splice
  have key : ∀ (vs mid pre : List Value) (j : Nat) (off : Nat), mid.length = vs.length → off + j = pre.length →
      (vs.zipIdx j).foldl (fun cs (p : Value × Nat) => cs.setIfInBounds (off + p.2) p.1) (pre ++ mid ++ post).toArray = (pre ++ vs ++ post).toArray := by
    intro vs
    induction vs with
    | nil => intro mid pre j off h _; rw [List.length_eq_zero_iff.mp h]; rfl
    | cons v vs ih =>
      intro mid pre j off h ho
      cases mid with
      | nil => simp at h
      | cons m mid =>
        simp only [List.zipIdx_cons, List.foldl_cons]
        have e : (pre ++ m :: mid ++ post).toArray.setIfInBounds (off + j) v = ((pre ++ [v]) ++ mid ++ post).toArray := by
          rw [ho]
          apply Array.ext'
          simp
        rw [e, ih mid (pre ++ [v]) (j + 1) off (by simpa using h) (by simp; omega)]
        simp
  have := key vs mid pre 0 pre.length h (by simp)
  rw [← this]
  rw [← Array.foldl_toList]
  congr 1
  simp
theorem fillT_full {sz : Nat} : ∀ (vs : List Value) (pre mid : List Value), (∀ v ∈ vs, v.cells.size = sz) → mid.length = vs.length * sz → fillT (pre ++ mid).toArray (full sz pre.length vs) = some (pre ++ flat vs).toArray
  | [], pre, mid, _, h => by
    have : mid = [] := List.length_eq_zero_iff.mp (by simpa using h)
    subst this
    simp [full, fillT, flat]
  | v :: vs, pre, mid, hs, h => by
    have hv := hs v (by simp)
    have hm : (mid.take sz).length = sz := by rw [List.length_take, h, List.length_cons, Nat.add_mul]; omega
    simp only [full, fillT]
    have hcond : (v.cells.size ≠ sz || pre.length + v.cells.size > (pre ++ mid).toArray.size) = false := by
      simp [hv, h, Nat.add_mul]
    rw [if_neg (by simpa using hcond)]
    have e : (pre ++ mid).toArray = (pre ++ mid.take sz ++ mid.drop sz).toArray := by simp
    have e2 : splice (pre ++ mid).toArray pre.length v.cells = ((pre ++ v.cells.toList) ++ mid.drop sz).toArray := by
      rw [e]
      have := splice_eq pre v.cells.toList (mid.take sz) (mid.drop sz) (by rw [hm]; simp [hv])
      simpa using this
    rw [e2]
    have := fillT_full vs (pre ++ v.cells.toList) (mid.drop sz) (fun u hu => hs u (by simp [hu])) (by rw [List.length_drop, h, List.length_cons, Nat.add_mul]; omega)
    rw [show (pre ++ v.cells.toList).length = pre.length + sz by simp [hv]] at this
    rw [this]
    simp [flat]
theorem bsl_of {e n sz : Nat} {z : Array Value} {parts : List (Nat × Nat × Value)} {w : World} {k : VW} (hp : parts = full sz 0 (parts.map fun p => p.2.2)) (hn : n = parts.length) (hs : (parts.all fun p => p.2.2.cells.size == sz) = true)
    (hk : k (.slice (some ⟨w.heap.size, 0, none⟩) n n) (w.alloc (.cells (flat (parts.map fun p => p.2.2)).toArray e))) : bslT e n sz z parts w k := by
  unfold bslT
  have h := fillT_full (sz := sz) (parts.map fun p => p.2.2) [] ((Array.range (n * sz)).map (z[· % z.size]!)).toList (fun v hv => by
    obtain ⟨p, h1, rfl⟩ := List.mem_map.mp hv
    simpa using List.all_eq_true.mp hs p h1) (by simp [hn])
  simp only [List.nil_append, List.length_nil, Array.toArray_toList] at h
  rw [← hp] at h
  simp only [h]
  exact hk
def Blk (w : World) (b : Nat) (cs : List Value) : Prop := ∃ t, w.heap[b]? = some (.cells cs.toArray t (0, 0))
theorem Blk.lt {w : World} {b : Nat} {cs : List Value} (h : Blk w b cs) : b < w.heap.size := by
  obtain ⟨t, h⟩ := h
  rcases Nat.lt_or_ge b w.heap.size with hb | hb
  · exact hb
  · rw [Array.getElem?_eq_none hb] at h; cases h
theorem Blk.cell {w : World} {b o : Nat} {cs : List Value} {v : Value} (h : Blk w b cs) (hv : cs[o]? = some v) : w.cell? ⟨b, o, none⟩ = some v := by
  obtain ⟨t, h⟩ := h
  unfold World.cell?
  simp [h, hv]
theorem Blk.cells {w : World} {b : Nat} {cs : List Value} (h : Blk w b cs) : Cells w b 0 cs := fun j c hj => by rw [Nat.zero_add]; exact h.cell hj
theorem Blk.warm {w : World} {b o : Nat} {cs : List Value} (h : Blk w b cs) : w.frozen? ⟨b, o, none⟩ = false := by
  obtain ⟨t, h⟩ := h
  unfold World.frozen?
  simp [h]
theorem Blk.fr {S : Nat → Prop} {w w' : World} {b : Nat} {cs : List Value} (h : Blk w b cs) (e : Fr S w w') (hs : ¬ S b) : Blk w' b cs := by
  have hb := h.lt
  obtain ⟨t, h⟩ := h
  exact ⟨t, (e.keep b hb hs).trans h⟩
theorem Blk.ext {w w' : World} {b : Nat} {cs : List Value} (h : Blk w b cs) (e : Ext w w') : Blk w' b cs := h.fr e (fun e => e)
theorem Blk.own {L : Lab} {w : World} {b m : Nat} {cs : List Value} {p : List Nat} (h : Blk w b cs) (hl : L b = some p) (hm : m ≤ cs.length) : Own L w p b m := by
  obtain ⟨t, h⟩ := h
  exact ⟨hl, _, t, h, by simpa using hm⟩
theorem Blk.sets {w : World} {b : Nat} {cs : List Value} (h : Blk w b cs) (o : Nat) (v : Value) : Blk (w.setCell ⟨b, o, none⟩ v) b (cs.set o v) := by
  obtain ⟨t, h⟩ := h
  exact ⟨t, by simp [World.setCell, Array.getElem?_modify, h]⟩
theorem blk_new (w : World) (cs : List Value) (t : Nat) : Blk (w.alloc (.cells cs.toArray t)) w.heap.size cs := ⟨t, heap_new _ _⟩
theorem al_of' {t : Nat} {z : Array Value} {w : World} {k : VW} (hk : ∀ b w', Ext w w' → w.heap.size ≤ b → Blk w' b z.toList → k (.pointer (some ⟨b, 0, none⟩)) w') : allocT t z w k := by
  refine hk w.heap.size _ ((Fr.refl _ _).alloc _) (Nat.le_refl _) ?_
  have := blk_new w z.toList t
  simpa using this
theorem box_of' {t : Nat} {v : Value} {w : World} {k : VW} (hk : ∀ b w', Ext w w' → w.heap.size ≤ b → Blk w' b v.cells.toList → k (.pointer (some ⟨b, 0, none⟩)) w') : boxT t v w k := by
  refine hk w.heap.size _ ((Fr.refl _ _).alloc _) (Nat.le_refl _) ?_
  have := blk_new w v.cells.toList t
  simpa using this
theorem bsl_of' {e n sz : Nat} {z : Array Value} {parts : List (Nat × Nat × Value)} {w : World} {k : VW} (hp : parts = full sz 0 (parts.map fun p => p.2.2)) (hn : n = parts.length) (hs : (parts.all fun p => p.2.2.cells.size == sz) = true)
    (hk : ∀ b w', Ext w w' → w.heap.size ≤ b → Blk w' b (flat (parts.map fun p => p.2.2)) → k (.slice (some ⟨b, 0, none⟩) n n) w') : bslT e n sz z parts w k :=
  bsl_of hp hn hs (hk _ _ ((Fr.refl _ _).alloc _) (Nat.le_refl _) (blk_new ..))
theorem st_of' {w : World} {b o : Nat} {cs : List Value} {v : Value} {k : World → Prop} (h : Blk w b cs) (ho : o < cs.length) (h1 : v.oneCell' = true) (hk : ∀ w', Fr (fun x => x = b) w w' → Blk w' b (cs.set o v) → k w') :
    stT (.pointer (some ⟨b, o, none⟩)) v w k :=
  st_of h1 (h.cell (List.getElem?_eq_getElem ho)) h.warm (hk _ ((Fr.refl (fun x => x = b) w).set (.inr rfl) _) (h.sets o v))
theorem stN_of : ∀ (vs : List Value) (w : World) (b o i : Nat) (cs : List Value), Blk w b cs → o + i + vs.length ≤ cs.length → (∀ v ∈ vs, v.oneCell' = true) →
    ∃ w', stN w ⟨b, o, none⟩ vs i = some w' ∧ Fr (fun x => x = b) w w' ∧ Blk w' b (cs.take (o + i) ++ vs ++ cs.drop (o + i + vs.length))
  | [], w, b, o, i, cs, h, _, _ => ⟨w, rfl, Fr.refl _ _, by simpa using h⟩
  | v :: vs, w, b, o, i, cs, h, hl, h1 => by
    have hlt : o + i < cs.length := by simp at hl; omega
    obtain ⟨w', a1, a2, a3⟩ := stN_of vs (w.setCell ⟨b, o + i, none⟩ v) b o (i + 1) _ (h.sets (o + i) v) (by simp at hl ⊢; omega) (fun u hu => h1 u (by simp [hu]))
    refine ⟨w', ?_, ((Fr.refl (fun x => x = b) w).set (.inr rfl) _).trans a2, ?_⟩
    · unfold stN
      rw [Addr.add_lit, if_pos ⟨h1 v (by simp), by rw [h.cell (List.getElem?_eq_getElem hlt)]; rfl, h.warm⟩]
      exact a1
    · have e : (cs.set (o + i) v).take (o + (i + 1)) ++ vs ++ (cs.set (o + i) v).drop (o + (i + 1) + vs.length) = cs.take (o + i) ++ (v :: vs) ++ cs.drop (o + i + (v :: vs).length) := by
        rw [show o + (i + 1) = o + i + 1 by omega, List.take_add_one]
        simp [List.take_set_of_le, List.drop_set_of_lt, hlt, List.drop_set]
        rw [if_pos (by omega)]
        congr 1; omega
      rwa [e] at a3
theorem sts_of' {w : World} {b n : Nat} {cs vs : List Value} {v : Value} {k : World → Prop} (hv : v.cells.toList = vs) (h : Blk w b cs) (hn : n = vs.length) (hl : cs.length = vs.length) (h1 : ∀ u ∈ vs, u.oneCell' = true)
    (hk : ∀ w', Fr (fun x => x = b) w w' → Blk w' b vs → k w') : stsT n (.pointer (some ⟨b, 0, none⟩)) v w k := by
  obtain ⟨w', a1, a2, a3⟩ := stN_of vs w b 0 0 cs h (by omega) h1
  have e : cs.take (0 + 0) ++ vs ++ cs.drop (0 + 0 + vs.length) = vs := by simp [hl]
  rw [e] at a3
  refine ⟨by rw [hn, ← hv]; simp, ?_⟩
  rw [hv, a1]
  exact hk w' a2 a3
theorem flatten_get {f : α → List Value} {sz : Nat} (h1 : ∀ a, (f a).length = sz) : ∀ (ys : List α) (j : Nat) (y : α) (i : Nat) (c : Value), ys[j]? = some y → (f y)[i]? = some c → ((ys.map f).flatten)[j * sz + i]? = some c
  | [], j, y, i, c, h, _ => by simp at h
  | a :: ys, 0, y, i, c, h, hc => by
    have : a = y := by simpa using h
    subst this
    simp only [List.map_cons, List.flatten_cons, Nat.zero_mul, Nat.zero_add]
    rw [List.getElem?_append_left (List.getElem?_eq_some_iff.mp hc).1]; exact hc
  | a :: ys, j + 1, y, i, c, h, hc => by
    simp only [List.map_cons, List.flatten_cons]
    rw [List.getElem?_append_right (by rw [h1, Nat.add_mul]; omega), h1, show (j + 1) * sz + i - sz = j * sz + i by rw [Nat.add_mul]; omega]
    exact flatten_get h1 ys j y i c (by simpa using h) hc
theorem flatten_len {f : α → List Value} {sz : Nat} (h1 : ∀ a, (f a).length = sz) (ys : List α) : ((ys.map f).flatten).length = ys.length * sz := by
  induction ys with
  | nil => simp
  | cons a ys ih => simp [ih, h1, Nat.add_mul]; omega
theorem app_lit {P : Program} {t ty e sz : Nat} {f : α → List Value} {h1 : ∀ a, (f a).length = sz} {h2 : ∀ a, ∀ v ∈ f a, v.oneCell' = true} {L : Lab} {w : World} {p : List Nat} {xs : List α} (ys : List α) {v : Value} {b n c : Nat} {k : VW}
    (hc : appB P t e sz = true) (hv : Sl (Kd.flat sz f h1 h2) (Own L) w p xs v) (hb : Blk w b ((ys.map f).flatten)) (hn' : n = ys.length) (hn : xs.length + ys.length ≤ 1073741824) (hL : Lim L w)
    (hk : ∀ v' w' L', Fr (fun b => L b = some p) w w' → Lx p w L L' → Lim L' w' → Sl (Kd.flat sz f h1 h2) (Own L') w' p (xs ++ ys) v' → k v' w') : opT P (Builtin.append_ #[t, t] ty #[v, .slice (some ⟨b, 0, none⟩) n c]) w k := by
  subst hn'
  refine app_of (kd := Kd.flat sz f h1 h2) hc hv (src_row hc (flatten_len h1 ys) hb.cells (fun u hu => ?_)) (fun j y hj => ⟨f y, rfl, fun i c hi => flatten_get h1 ys j y i c hj hi⟩) hn hL hk
  obtain ⟨l, hl, hu⟩ := List.mem_flatten.mp hu
  obtain ⟨a, _, rfl⟩ := List.mem_map.mp hl
  exact h2 a u hu
def Born (w : World) (L : Lab) : Prop := ∀ b p, L b = some p → w.heap.size ≤ b
theorem Born.lx {p : List Nat} {w0 w : World} {L L' : Lab} (h : Born w0 L) (hx : Lx p w L L') (hs : w0.heap.size ≤ w.heap.size) : Born w0 L' := by
  intro b q hb
  rcases hx b with h1 | ⟨h1, _⟩
  · rw [h1] at hb; exact h b q hb
  · omega
theorem Lim.fr {L : Lab} {S : Nat → Prop} {w w' : World} (h : Lim L w) (e : Fr S w w') : Lim L w' := fun b p hb => Nat.lt_of_lt_of_le (h b p hb) e.size
theorem Sl.keep {kd : Kd α} {L : Lab} {w w' : World} {p : List Nat} {xs : List α} {v : Value} {S : Nat → Prop} (h : Sl kd (Own L) w p xs v) (e : Fr S w w') (hs : ∀ b q, L b = some q → ¬ S b) : Sl kd (Own L) w' p xs v :=
  h.own e (fun b r hb => ⟨hs b _ hb, hb⟩)
theorem Sl.keepX {kd : Kd α} {L : Lab} {w w' : World} {p : List Nat} {xs : List α} {v : Value} (h : Sl kd (Own L) w p xs v) (e : Ext w w') : Sl kd (Own L) w' p xs v := h.keep e (fun _ _ _ e => e)
def lab1 (b : Nat) (p : List Nat) : Lab := fun x => if x = b then some p else none
theorem lab1_born {w : World} {b : Nat} {p : List Nat} (h : w.heap.size ≤ b) : Born w (lab1 b p) := fun x q hx => by
  unfold lab1 at hx; split at hx
  · omega
  · cases hx
theorem lab1_lim {w : World} {b : Nat} {p : List Nat} (h : b < w.heap.size) : Lim (lab1 b p) w := fun x q hx => by
  unfold lab1 at hx; split at hx
  · omega
  · cases hx
theorem sl_empty {kd : Kd α} {w : World} {b : Nat} {p : List Nat} (h : Blk w b []) : Sl kd (Own (lab1 b p)) w p [] (.slice (some ⟨b, 0, none⟩) 0 0) :=
  Sl.fresh (h.own (by simp [lab1]) (by simp))
theorem ixaS_of {b o n c sz : Nat} {x : IntKind} {j : Int} {k : Value → Prop} (h0 : 0 ≤ j) (h1 : j < n) (hk : k (.pointer (some ⟨b, o + j.toNat * sz, none⟩))) : ixaT sz (.slice (some ⟨b, o, none⟩) n c) (.int x j) k := ⟨h0, h1, hk⟩
theorem equalB {P : Program} {t : Nat} (ht : P.underlying t = some .bool) (a b : Bool) (w : World) : (Op.equal t (.bool a) (.bool b)).run P w = .ok (a == b) w := by
  have e : Op.maxDepth = (Op.maxDepth - 1) + 1 := rfl
  unfold Op.equal
  rw [e]
  unfold Op.equalIn
  simp [run_underlying ht]
theorem neqB_of {P : Program} {t : Nat} {x y : Operand} {a b : Bool} {w : World} {k : VW} (ht : P.underlying t = some .bool) (hk : k (.bool (a != b)) w) : opT P (do eqGuard .neq t x y (.bool a) (.bool b); binOp .neq t (.bool a) (.bool b)) w k := by
  have e : (do eqGuard .neq t x y (.bool a) (.bool b); binOp .neq t (.bool a) (.bool b) : Sem Value).run P w = .ok (.bool (a != b)) w := by
    simp [eqGuard, binOp, equalB ht, bne]
  unfold opT
  simp only [e]
  exact hk
theorem eqlB_of {P : Program} {t : Nat} {x y : Operand} {a b : Bool} {w : World} {k : VW} (ht : P.underlying t = some .bool) (hk : k (.bool (a == b)) w) : opT P (do eqGuard .eql t x y (.bool a) (.bool b); binOp .eql t (.bool a) (.bool b)) w k := by
  have e : (do eqGuard .eql t x y (.bool a) (.bool b); binOp .eql t (.bool a) (.bool b) : Sem Value).run P w = .ok (.bool (a == b)) w := by
    simp [eqGuard, binOp, equalB ht]
  unfold opT
  simp only [e]
  exact hk
theorem clv_of {P : Program} {Γ : Ctx} {f : Nat} {first captured : Array Value} {args all : List Value} {w : World} {k : VW} (hf : Γ.fok f = true) (ha : all = first.toList ++ args ++ captured.toList) (h : clT P f all w k) : clvT P Γ (.func (.func f) first captured) args w k := by
  subst ha; exact ⟨hf, h⟩
theorem Blk.part {w : World} {b : Nat} {cs : List Value} (h : Blk w b cs) (o n : Nat) {sub : List Value} (hs : (cs.drop o).take n = sub) : Cells w b o sub := by
  intro j c hj
  refine h.cell ?_
  subst hs
  rw [List.getElem?_take] at hj
  split at hj
  · rwa [List.getElem?_drop] at hj
  · cases hj
end Go.PT
