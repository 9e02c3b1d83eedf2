/- Without what cannot be come to the same is done. The contract. -/
import Derived.Test.YtegddhbcglghdaaGreatGD
import Derived.MapKept
import Derived.Test.YtegddhbcglghdaaGreatGC
import Derived.Test.YtegddhbcglghdaaGreatGJ
import Derived.Test.YtegddhbcglghdaaGreatLTextView
import Derived.Test.YtegddhbcglghdaaGreatLTextDead
import Derived.Test.YtegddhbcglghdaaGreatGG
import Derived.Test.YtegddhbcglghdaaGreatLTextTrimRun
/- Rules for maps from integers to integers that number what is put in, in the order in which it is. -/
set_option linter.unusedVariables false
set_option linter.unusedSimpArgs false
namespace Go.PT
open Go.MapKept
def entsF : Nat → List Int → List MapEntry
  | _, [] => []
  | i, n :: l => ⟨.int .i64 n, .int .i64 i, i⟩ :: entsF (i + 1) l
/-- A block is a map of these keys, each with its place. -/
def MapB (w : World) (b : Nat) (os : List Int) : Prop := w.heap[b]? = some (.map (entsF 0 os).toArray os.length)
def mapB (P : Program) (t : Nat) : Bool :=
  match P.underlying t with
  | some (.map k e) => (match P.underlying k with | some (.int .i64) => true | _ => false) && (match P.info? e with | some i => (match i.zero with | some (.int .i64 0) => true | _ => false) | none => false)
  | _ => false
theorem mapB_of {P : Program} {t : Nat} (h : mapB P t = true) : ∃ k e i, P.underlying t = some (.map k e) ∧ P.underlying k = some (.int .i64) ∧ P.info? e = some i ∧ i.zero = some (.int .i64 0) := by
  unfold mapB at h
  split at h
  · rename_i k e he
    rw [Bool.and_eq_true] at h
    obtain ⟨h1, h2⟩ := h
    split at h1
    · rename_i hk
      split at h2
      · rename_i i hi
        split at h2
        · rename_i hz
          exact ⟨k, e, i, he, hk, hi, hz⟩
        · cases h2
      · cases h2
    · cases h1
  · cases h
theorem run_zeroV {P : Program} {e : Nat} {i : TypeInfo} {z : Value} (hi : P.info? e = some i) (hz : i.zero = some z) (w : World) : (zeroValue e).run P w = .ok z w := by
  simp [zeroValue, typeInfo, hi, hz, Result.andThen]
theorem entsF_len : ∀ (os : List Int) (i : Nat), (entsF i os).length = os.length
  | [], _ => rfl
  | n :: l, i => by simp [entsF, entsF_len l]
theorem entsF_app : ∀ (os : List Int) (i : Nat) (n : Int), entsF i (os ++ [n]) = entsF i os ++ [⟨.int .i64 n, .int .i64 (i + os.length : Nat), i + os.length⟩]
  | [], i, n => by simp [entsF]
  | m :: l, i, n => by
    simp only [List.cons_append, entsF, entsF_app l, List.length_cons]
    rw [show i + 1 + l.length = i + (l.length + 1) by omega]
theorem findNow_ents (n : Int) : ∀ (os : List Int) (i j : Nat), Instr.findNow (.int .i64) (.int .i64 n) (entsF i os) j = some (if n ∈ os then some (j + os.idxOf n, .int .i64 (i + os.idxOf n : Nat)) else none)
  | [], i, j => rfl
  | m :: l, i, j => by
    unfold entsF Instr.findNow
    by_cases e : n = m
    · subst e
      simp [Instr.sameNow]
    · have h1 : Instr.sameNow (.int .i64) (.int .i64 n) (.int .i64 m) = some false := by simp [Instr.sameNow, e]
      simp only [h1]
      rw [findNow_ents n l (i + 1) (j + 1)]
      have e2 : (m == n) = false := by simp; exact fun h => e h.symm
      by_cases hl : n ∈ l
      · rw [if_pos hl, if_pos (.tail _ hl), List.idxOf_cons, e2]
        simp only [cond_false]
        congr 2
        · congr 1
          · omega
          · congr 1; omega
      · rw [if_neg hl, if_neg (by intro h; rcases List.mem_cons.mp h with h | h; exact e h; exact hl h)]
theorem mkm_of {P : Program} {t : Nat} {w : World} {k : VW} (hk : ∀ b w', Ext w w' → w.heap.size ≤ b → MapB w' b [] → k (.map (some b)) w') : opT P (Instr.makeMap t none) w k := by
  have e : (Instr.makeMap t none).run P w = .ok (.map (some w.heap.size)) (w.alloc (.map #[] 0)) := rfl
  unfold opT
  simp only [e]
  exact hk _ _ ((Fr.refl _ _).alloc _) (Nat.le_refl _) (MapKept.heap_alloc w _).1
theorem look_of {P : Program} {t : Nat} {w : World} {b : Nat} {os : List Int} {n : Int} {k : VW} (ht : mapB P t = true) (hb : MapB w b os)
    (hk : k (.tuple #[.int .i64 (if n ∈ os then (os.idxOf n : Int) else 0), .bool (decide (n ∈ os))]) w) : opT P (Instr.lookup t (.map (some b)) (.int .i64 n) true) w k := by
  obtain ⟨kt, et, i, h1, h2, h3, h4⟩ := mapB_of ht
  have hb : w.heap[b]? = some (.map (entsF 0 os).toArray os.length) := hb
  have hf := findNow_ents n os 0 0
  have hck : ∀ e, (Instr.checkKey e 10000 kt (.int .i64 n)).run P w = .ok () w := fun e => run_checkKey h2 (show IsKey (.int .i64) (.int .i64 n) from rfl) e _
  have e : (Instr.lookup t (.map (some b)) (.int .i64 n) true).run P w = .ok (.tuple #[.int .i64 (if n ∈ os then (os.idxOf n : Int) else 0), .bool (decide (n ∈ os))]) w := by
    by_cases hn : n ∈ os
    · rw [if_pos hn] at hf
      simp [Instr.lookup, run_underlying h1, MapKept.run_getObj_map hb, hck, run_findKey h2 hf, Result.andThen, hn]
    · rw [if_neg hn] at hf
      simp [Instr.lookup, run_underlying h1, MapKept.run_getObj_map hb, hck, run_findKey h2 hf, run_zeroV h3 h4, Result.andThen, hn]
  unfold opT
  simp only [e]
  exact hk
theorem upd_of {P : Program} {t : Nat} {w : World} {b : Nat} {os : List Int} {n : Int} {k : World → Prop} (ht : mapB P t = true) (hb : MapB w b os) (hn : n ∉ os)
    (hk : ∀ w', Fr (fun x => x = b) w w' → MapB w' b (os ++ [n]) → k w') : opU P (Instr.mapUpdate t (.map (some b)) (.int .i64 n) (.int .i64 os.length)) w k := by
  obtain ⟨kt, et, i, h1, h2, h3, h4⟩ := mapB_of ht
  have hb : w.heap[b]? = some (.map (entsF 0 os).toArray os.length) := hb
  have hf := findNow_ents n os 0 0
  rw [if_neg hn] at hf
  have hck : ∀ e, (Instr.checkKey e 10000 kt (.int .i64 n)).run P w = .ok () w := fun e => run_checkKey h2 (show IsKey (.int .i64) (.int .i64 n) from rfl) e _
  have e : (Instr.mapUpdate t (.map (some b)) (.int .i64 n) (.int .i64 os.length)).run P w = .ok () { w with heap := w.heap.setIfInBounds b (.map ((entsF 0 os).toArray.push ⟨.int .i64 n, .int .i64 os.length, os.length⟩) (os.length + 1)) } := by
    simp [Instr.mapUpdate, run_underlying h1, MapKept.run_getObj_map hb, hck, run_findKey h2 hf, MapKept.run_setObj_map _ hb, Result.andThen]
  unfold opU
  simp only [e]
  refine hk _ ⟨rfl, rfl, rfl, by simp, fun x _ hx => (heap_set hb).2 x hx⟩ ?_
  show _ = _
  rw [(heap_set hb).1, entsF_app]
  simp
theorem MapB.keep {S : Nat → Prop} {w w' : World} {b : Nat} {os : List Int} (h : MapB w b os) (e : Fr S w w') (hb : ¬ S b) : MapB w' b os := by
  have hlt : b < w.heap.size := (Array.getElem?_eq_some_iff.mp h).1
  exact (e.keep b hlt hb).trans h
theorem MapB.lt {w : World} {b : Nat} {os : List Int} (h : MapB w b os) : b < w.heap.size := (Array.getElem?_eq_some_iff.mp h).1
end Go.PT

/- Calls that tell of one another, as a graph: what is seen from the one that runs is the same in graphs that are alike. -/
set_option linter.unusedVariables false
set_option linter.unusedSimpArgs false
set_option linter.unusedSectionVars false
namespace Go.PT
structure Gr (ν : Type) where
  now : Option ν
  met : ν → Int
  pc : ν → Int
  temps : ν → List V
  stack : ν → List V
  sender : ν → Option ν
  dead : ν → Bool
  rf : Int → ν
variable {ν μ ξ : Type}
/-! ### lists that are alike -/
def RL {α β : Type} (R : α → β → Prop) : List α → List β → Prop
  | [], [] => True
  | a :: l, b :: m => R a b ∧ RL R l m
  | _, _ => False
def RO {α β : Type} (R : α → β → Prop) : Option α → Option β → Prop
  | none, none => True
  | some a, some b => R a b
  | _, _ => False
theorem RL.len {α β : Type} {R : α → β → Prop} : ∀ {l : List α} {m : List β}, RL R l m → l.length = m.length
  | [], [], _ => rfl
  | a :: l, b :: m, h => by simp [RL.len h.2]
theorem RL.get {α β : Type} {R : α → β → Prop} : ∀ {l : List α} {m : List β}, RL R l m → ∀ {i : Nat} {a : α} {b : β}, l[i]? = some a → m[i]? = some b → R a b
  | a :: l, b :: m, h, 0, x, y, h1, h2 => by
    obtain rfl : a = x := by simpa using h1
    obtain rfl : b = y := by simpa using h2
    exact h.1
  | a :: l, b :: m, h, i + 1, x, y, h1, h2 => RL.get h.2 (i := i) (by simpa using h1) (by simpa using h2)
theorem RL.of {α β : Type} {R : α → β → Prop} : ∀ {l : List α} {m : List β}, l.length = m.length → (∀ (i : Nat) a b, l[i]? = some a → m[i]? = some b → R a b) → RL R l m
  | [], [], _, _ => trivial
  | a :: l, b :: m, hl, h => ⟨h 0 a b rfl rfl, RL.of (by simpa using hl) (fun i x y h1 h2 => h (i + 1) x y (by simpa using h1) (by simpa using h2))⟩
theorem RL.app {α β : Type} {R : α → β → Prop} : ∀ {l l' : List α} {m m' : List β}, RL R l m → RL R l' m' → RL R (l ++ l') (m ++ m')
  | [], l', [], m', _, h => h
  | a :: l, l', b :: m, m', h, h' => ⟨h.1, RL.app h.2 h'⟩
theorem RL.take {α β : Type} {R : α → β → Prop} : ∀ {l : List α} {m : List β} (n : Nat), RL R l m → RL R (l.take n) (m.take n)
  | [], [], n, _ => by simp [RL]
  | a :: l, b :: m, 0, h => by simp [RL]
  | a :: l, b :: m, n + 1, h => ⟨h.1, RL.take n h.2⟩
theorem RL.drop {α β : Type} {R : α → β → Prop} : ∀ {l : List α} {m : List β} (n : Nat), RL R l m → RL R (l.drop n) (m.drop n)
  | [], [], n, _ => by simp [RL]
  | a :: l, b :: m, 0, h => h
  | a :: l, b :: m, n + 1, h => RL.drop n h.2
theorem RL.mono {α β : Type} {R S : α → β → Prop} : ∀ {l : List α} {m : List β}, RL R l m → (∀ a b, a ∈ l → b ∈ m → R a b → S a b) → RL S l m
  | [], [], _, _ => trivial
  | a :: l, b :: m, h, hs => ⟨hs _ _ (by simp) (by simp) h.1, RL.mono h.2 (fun x y hx hy => hs x y (by simp [hx]) (by simp [hy]))⟩
theorem RL.set {α β : Type} {R : α → β → Prop} : ∀ {l : List α} {m : List β} (n : Nat) {a : α} {b : β}, RL R l m → R a b → RL R (l.set n a) (m.set n b)
  | [], [], n, _, _, _, _ => trivial
  | x :: l, y :: m, 0, a, b, h, hr => ⟨hr, h.2⟩
  | x :: l, y :: m, n + 1, a, b, h, hr => ⟨h.1, RL.set n h.2 hr⟩
theorem RL.map {α β α' β' : Type} {R : α → β → Prop} {S : α' → β' → Prop} {f : α → α'} {f' : β → β'} : ∀ {l : List α} {m : List β}, RL R l m → (∀ a b, R a b → S (f a) (f' b)) → RL S (l.map f) (m.map f')
  | [], [], _, _ => trivial
  | a :: l, b :: m, h, hs => ⟨hs _ _ h.1, RL.map h.2 hs⟩
theorem RL.eq {α : Type} : ∀ {l m : List α}, RL (fun a b => a = b) l m → l = m
  | [], [], _ => rfl
  | a :: l, b :: m, h => by rw [h.1, RL.eq h.2]
theorem RL.self {α : Type} {R : α → α → Prop} : ∀ {l : List α}, (∀ a ∈ l, R a a) → RL R l l
  | [], _ => trivial
  | a :: l, h => ⟨h a (by simp), RL.self (fun b hb => h b (by simp [hb]))⟩
theorem RL.mem {α β : Type} {R : α → β → Prop} : ∀ {l : List α} {m : List β}, RL R l m → ∀ {a : α}, a ∈ l → ∃ b ∈ m, R a b
  | x :: l, y :: m, h, a, ha => by
    rcases List.mem_cons.mp ha with rfl | ha
    · exact ⟨y, by simp, h.1⟩
    · obtain ⟨b, hb, hr⟩ := RL.mem h.2 ha
      exact ⟨b, by simp [hb], hr⟩

/-! ### graphs that are alike -/
def RV (R : ν → μ → Prop) (f : Int → ν) (f' : Int → μ) (v v' : V) : Prop := v.1 = v'.1 ∧ (v.1 = 2 → R (f v.2) (f' v'.2)) ∧ (v.1 ≠ 2 → v.2 = v'.2)
structure Iso (g : Gr ν) (g' : Gr μ) (R : ν → μ → Prop) : Prop where
  one : ∀ {a b c}, R a b → R a c → b = c
  two : ∀ {a b c}, R a c → R b c → a = b
  met : ∀ {a b}, R a b → g.met a = g'.met b
  pc : ∀ {a b}, R a b → g.pc a = g'.pc b
  dead : ∀ {a b}, R a b → g.dead a = g'.dead b
  temps : ∀ {a b}, R a b → RL (RV R g.rf g'.rf) (g.temps a) (g'.temps b)
  stack : ∀ {a b}, R a b → RL (RV R g.rf g'.rf) (g.stack a) (g'.stack b)
  sender : ∀ {a b}, R a b → RO R (g.sender a) (g'.sender b)
  now : RO R g.now g'.now
theorem RO.flip {α β : Type} {R : α → β → Prop} : ∀ {a : Option α} {b : Option β}, RO R a b → RO (fun y x => R x y) b a
  | none, none, _ => trivial
  | some _, some _, h => h
theorem RL.flip {α β : Type} {R : α → β → Prop} : ∀ {l : List α} {m : List β}, RL R l m → RL (fun y x => R x y) m l
  | [], [], _ => trivial
  | _ :: _, _ :: _, h => ⟨h.1, RL.flip h.2⟩
theorem RV.flip {R : ν → μ → Prop} {f : Int → ν} {f' : Int → μ} {v v' : V} (h : RV R f f' v v') : RV (fun y x => R x y) f' f v' v :=
  ⟨h.1.symm, fun e => h.2.1 (h.1.trans e), fun e => (h.2.2 (fun e' => e (h.1.symm.trans e'))).symm⟩
theorem Iso.flip {g : Gr ν} {g' : Gr μ} {R : ν → μ → Prop} (I : Iso g g' R) : Iso g' g (fun y x => R x y) :=
  ⟨fun h h' => I.two h h', fun h h' => I.one h h', fun h => (I.met h).symm, fun h => (I.pc h).symm, fun h => (I.dead h).symm, fun h => (I.temps h).flip.mono (fun _ _ _ _ h => h.flip), fun h => (I.stack h).flip.mono (fun _ _ _ _ h => h.flip), fun h => (I.sender h).flip, I.now.flip⟩
theorem RO.trans {α β γ : Type} {R : α → β → Prop} {S : β → γ → Prop} : ∀ {a : Option α} {b : Option β} {c : Option γ}, RO R a b → RO S b c → RO (fun x z => ∃ y, R x y ∧ S y z) a c
  | none, none, none, _, _ => trivial
  | some _, some y, some _, h, h' => ⟨y, h, h'⟩
theorem RL.trans {α β γ : Type} {R : α → β → Prop} {S : β → γ → Prop} : ∀ {l : List α} {m : List β} {n : List γ}, RL R l m → RL S m n → RL (fun x z => ∃ y, R x y ∧ S y z) l n
  | [], [], [], _, _ => trivial
  | _ :: _, y :: _, _ :: _, h, h' => ⟨⟨y, h.1, h'.1⟩, RL.trans h.2 h'.2⟩
theorem RV.trans {R : ν → μ → Prop} {S : μ → ξ → Prop} {f : Int → ν} {f' : Int → μ} {f'' : Int → ξ} {v v' v'' : V} (h : RV R f f' v v') (h' : RV S f' f'' v' v'') : RV (fun x z => ∃ y, R x y ∧ S y z) f f'' v v'' :=
  ⟨h.1.trans h'.1, fun e => ⟨_, h.2.1 e, h'.2.1 (h.1 ▸ e)⟩, fun e => (h.2.2 e).trans (h'.2.2 (fun e' => e (h.1.trans e')))⟩
theorem Iso.trans {g : Gr ν} {g' : Gr μ} {g'' : Gr ξ} {R : ν → μ → Prop} {S : μ → ξ → Prop} (I : Iso g g' R) (J : Iso g' g'' S) : Iso g g'' (fun x z => ∃ y, R x y ∧ S y z) where
  one := fun ⟨y, h1, h2⟩ ⟨y', h3, h4⟩ => by obtain rfl := I.one h1 h3; exact J.one h2 h4
  two := fun ⟨y, h1, h2⟩ ⟨y', h3, h4⟩ => by obtain rfl := J.two h2 h4; exact I.two h1 h3
  met := fun ⟨y, h1, h2⟩ => (I.met h1).trans (J.met h2)
  pc := fun ⟨y, h1, h2⟩ => (I.pc h1).trans (J.pc h2)
  dead := fun ⟨y, h1, h2⟩ => (I.dead h1).trans (J.dead h2)
  temps := fun ⟨y, h1, h2⟩ => ((I.temps h1).trans (J.temps h2)).mono (fun _ _ _ _ ⟨_, h, h'⟩ => h.trans h')
  stack := fun ⟨y, h1, h2⟩ => ((I.stack h1).trans (J.stack h2)).mono (fun _ _ _ _ ⟨_, h, h'⟩ => h.trans h')
  sender := fun ⟨y, h1, h2⟩ => (I.sender h1).trans (J.sender h2)
  now := I.now.trans J.now
/-- Graphs that agree where they are looked at. -/
structure Agree (g g' : Gr ν) (D : ν → Prop) : Prop where
  now : g'.now = g.now
  rf : g'.rf = g.rf
  met : ∀ a, D a → g'.met a = g.met a
  pc : ∀ a, D a → g'.pc a = g.pc a
  dead : ∀ a, D a → g'.dead a = g.dead a
  temps : ∀ a, D a → g'.temps a = g.temps a
  stack : ∀ a, D a → g'.stack a = g.stack a
  sender : ∀ a, D a → g'.sender a = g.sender a
theorem Iso.agree {g k : Gr ν} {g' k' : Gr μ} {R : ν → μ → Prop} {D : ν → Prop} {D' : μ → Prop} (I : Iso g g' R) (h : Agree g k D) (h' : Agree g' k' D') (hD : ∀ a b, R a b → D a ∧ D' b) : Iso k k' R where
  one := I.one
  two := I.two
  met := fun {a b} r => by rw [h.met a (hD a b r).1, h'.met b (hD a b r).2]; exact I.met r
  pc := fun {a b} r => by rw [h.pc a (hD a b r).1, h'.pc b (hD a b r).2]; exact I.pc r
  dead := fun {a b} r => by rw [h.dead a (hD a b r).1, h'.dead b (hD a b r).2]; exact I.dead r
  temps := fun {a b} r => by rw [h.temps a (hD a b r).1, h'.temps b (hD a b r).2, h.rf, h'.rf]; exact I.temps r
  stack := fun {a b} r => by rw [h.stack a (hD a b r).1, h'.stack b (hD a b r).2, h.rf, h'.rf]; exact I.stack r
  sender := fun {a b} r => by rw [h.sender a (hD a b r).1, h'.sender b (hD a b r).2]; exact I.sender r
  now := by rw [h.now, h'.now]; exact I.now

/-! ### what is seen -/
variable [DecidableEq ν] [DecidableEq μ]
def refV (g : Gr ν) (v : V) : Option ν := if v.1 = 2 then some (g.rf v.2) else none
def refs (g : Gr ν) (a : ν) : List ν := (g.sender a).toList ++ ((g.temps a).filterMap (refV g) ++ (g.stack a).filterMap (refV g))
def add1 (out : List ν) (a : ν) : List ν := if a ∈ out then out else out ++ [a]
def addAll (out : List ν) (l : List ν) : List ν := l.foldl add1 out
def bfs (g : Gr ν) : Nat → Nat → List ν → List ν
  | 0, _, out => out
  | n + 1, i, out => match out[i]? with | some a => bfs g n (i + 1) (addAll out (refs g a)) | none => out
def found (g : Gr ν) (n : Nat) : List ν := match g.now with | some a => bfs g n 0 [a] | none => []
def nameV (g : Gr ν) (out : List ν) (v : V) : V := if v.1 = 2 then (v.1, (out.idxOf (g.rf v.2) : Int)) else v
def seen (g : Gr ν) (out : List ν) (a : ν) : Cl := ⟨g.met a, g.pc a, (g.temps a).map (nameV g out), (g.stack a).map (nameV g out), match g.sender a with | some b => (out.idxOf b : Int) | none => -1, g.dead a⟩
def view (g : Gr ν) (n : Nat) : List Cl := (found g n).map (seen g (found g n))
def Inj (R : ν → μ → Prop) : Prop := (∀ {a b c}, R a b → R a c → b = c) ∧ (∀ {a b c}, R a c → R b c → a = b)
theorem Iso.inj {g : Gr ν} {g' : Gr μ} {R : ν → μ → Prop} (I : Iso g g' R) : Inj R := ⟨I.one, I.two⟩
theorem mem_rel {R : ν → μ → Prop} (hR : Inj R) : ∀ {l : List ν} {m : List μ}, RL R l m → ∀ {a : ν} {b : μ}, R a b → (a ∈ l ↔ b ∈ m)
  | [], [], _, a, b, _ => by simp
  | x :: l, y :: m, h, a, b, r => by
    rw [List.mem_cons, List.mem_cons, mem_rel hR h.2 r]
    constructor
    · rintro (rfl | h1)
      · exact .inl (hR.1 r h.1)
      · exact .inr h1
    · rintro (rfl | h1)
      · exact .inl (hR.2 r h.1)
      · exact .inr h1
theorem add1_rel {R : ν → μ → Prop} (hR : Inj R) {l : List ν} {m : List μ} (h : RL R l m) {a : ν} {b : μ} (r : R a b) : RL R (add1 l a) (add1 m b) := by
  unfold add1
  have := mem_rel hR h r
  by_cases ha : a ∈ l
  · rw [if_pos ha, if_pos (this.mp ha)]; exact h
  · rw [if_neg ha, if_neg (fun hb => ha (this.mpr hb))]; exact h.app ⟨r, trivial⟩
theorem addAll_rel {R : ν → μ → Prop} (hR : Inj R) : ∀ {r : List ν} {s : List μ}, RL R r s → ∀ {l : List ν} {m : List μ}, RL R l m → RL R (addAll l r) (addAll m s)
  | [], [], _, l, m, h => h
  | a :: r, b :: s, h', l, m, h => addAll_rel hR h'.2 (add1_rel hR h h'.1)
theorem filterMap_rel {R : ν → μ → Prop} {g : Gr ν} {g' : Gr μ} : ∀ {l m : List V}, RL (RV R g.rf g'.rf) l m → RL R (l.filterMap (refV g)) (m.filterMap (refV g'))
  | [], [], _ => trivial
  | v :: l, v' :: m, h => by
    have ih := filterMap_rel h.2
    by_cases hv : v.1 = 2
    · have hv' : v'.1 = 2 := h.1.1 ▸ hv
      have e : refV g v = some (g.rf v.2) := by unfold refV; rw [if_pos hv]
      have e' : refV g' v' = some (g'.rf v'.2) := by unfold refV; rw [if_pos hv']
      rw [List.filterMap_cons_some e, List.filterMap_cons_some e']
      exact ⟨h.1.2.1 hv, ih⟩
    · have hv' : v'.1 ≠ 2 := h.1.1 ▸ hv
      have e : refV g v = none := by unfold refV; rw [if_neg hv]
      have e' : refV g' v' = none := by unfold refV; rw [if_neg hv']
      rw [List.filterMap_cons_none e, List.filterMap_cons_none e']
      exact ih
theorem toList_rel {R : ν → μ → Prop} : ∀ {a : Option ν} {b : Option μ}, RO R a b → RL R a.toList b.toList
  | none, none, _ => trivial
  | some _, some _, h => ⟨h, trivial⟩
theorem refs_rel {g : Gr ν} {g' : Gr μ} {R : ν → μ → Prop} (I : Iso g g' R) {a : ν} {b : μ} (r : R a b) : RL R (refs g a) (refs g' b) :=
  (toList_rel (I.sender r)).app ((filterMap_rel (I.temps r)).app (filterMap_rel (I.stack r)))
theorem bfs_rel {g : Gr ν} {g' : Gr μ} {R : ν → μ → Prop} (I : Iso g g' R) : ∀ (n i : Nat) {l : List ν} {m : List μ}, RL R l m → RL R (bfs g n i l) (bfs g' n i m)
  | 0, _, _, _, h => h
  | n + 1, i, l, m, h => by
    unfold bfs
    have hl := h.len
    rcases Nat.lt_or_ge i l.length with hi | hi
    · rw [List.getElem?_eq_getElem hi, List.getElem?_eq_getElem (hl ▸ hi)]
      exact bfs_rel I n (i + 1) (addAll_rel I.inj (refs_rel I (h.get (List.getElem?_eq_getElem hi) (List.getElem?_eq_getElem (hl ▸ hi)))) h)
    · rw [List.getElem?_eq_none hi, List.getElem?_eq_none (hl ▸ hi)]
      exact h
theorem found_rel {g : Gr ν} {g' : Gr μ} {R : ν → μ → Prop} (I : Iso g g' R) (n : Nat) : RL R (found g n) (found g' n) := by
  have := I.now
  unfold found
  cases h : g.now <;> cases h' : g'.now <;> rw [h, h'] at this
  · trivial
  · cases this
  · cases this
  · exact bfs_rel I n 0 ⟨this, trivial⟩
theorem idxOf_rel {R : ν → μ → Prop} (hR : Inj R) : ∀ {l : List ν} {m : List μ}, RL R l m → ∀ {a : ν} {b : μ}, R a b → l.idxOf a = m.idxOf b
  | [], [], _, a, b, _ => rfl
  | x :: l, y :: m, h, a, b, r => by
    rw [List.idxOf_cons, List.idxOf_cons, idxOf_rel hR h.2 r]
    have : (x == a) = (y == b) := by
      rw [Bool.eq_iff_iff, beq_iff_eq, beq_iff_eq]
      constructor
      · rintro rfl; exact hR.1 h.1 r
      · rintro rfl; exact hR.2 h.1 r
    rw [this]
theorem view_rel {g : Gr ν} {g' : Gr μ} {R : ν → μ → Prop} (I : Iso g g' R) (n : Nat) : view g n = view g' n := by
  unfold view
  have hf := found_rel I n
  refine RL.eq (RL.map hf (fun a b r => ?_))
  have hi : ∀ {x : ν} {y : μ}, R x y → (found g n).idxOf x = (found g' n).idxOf y := fun r => idxOf_rel I.inj hf r
  have hv : ∀ {l m : List V}, RL (RV R g.rf g'.rf) l m → l.map (nameV g (found g n)) = m.map (nameV g' (found g' n)) := fun h => RL.eq (h.map (fun v v' r => by
    unfold nameV
    by_cases e : v.1 = 2
    · rw [if_pos e, if_pos (r.1 ▸ e), hi (r.2.1 e), r.1]
    · rw [if_neg e, if_neg (r.1 ▸ e)]
      exact Prod.ext r.1 (r.2.2 e)))
  unfold seen
  rw [I.met r, I.pc r, hv (I.temps r), hv (I.stack r), I.dead r]
  have hs := I.sender r
  congr 1
  cases h : g.sender a <;> cases h' : g'.sender b <;> rw [h, h'] at hs
  · exact hs.elim
  · exact hs.elim
  · exact congrArg (fun n : Nat => (n : Int)) (hi hs)

/-! ### the search has an end -/
theorem add1_sub {out : List ν} {a x : ν} : x ∈ add1 out a ↔ x ∈ out ∨ x = a := by
  unfold add1
  split
  · rename_i h
    constructor
    · exact .inl
    · rintro (h1 | rfl)
      · exact h1
      · exact h
  · simp
theorem addAll_sub : ∀ {l out : List ν} {x : ν}, x ∈ addAll out l ↔ x ∈ out ∨ x ∈ l
  | [], out, x => by simp [addAll]
  | a :: l, out, x => by
    have := addAll_sub (l := l) (out := add1 out a) (x := x)
    unfold addAll at this ⊢
    rw [List.foldl_cons, this, add1_sub, List.mem_cons]
    constructor
    · rintro ((h | h) | h)
      · exact .inl h
      · exact .inr (.inl h)
      · exact .inr (.inr h)
    · rintro (h | h | h)
      · exact .inl (.inl h)
      · exact .inl (.inr h)
      · exact .inr h
theorem add1_pre {out : List ν} {a : ν} : ∃ t, add1 out a = out ++ t := by
  unfold add1; split
  · exact ⟨[], by simp⟩
  · exact ⟨[a], rfl⟩
theorem addAll_pre : ∀ {l out : List ν}, ∃ t, addAll out l = out ++ t
  | [], out => ⟨[], by simp [addAll]⟩
  | a :: l, out => by
    obtain ⟨t, ht⟩ := add1_pre (out := out) (a := a)
    obtain ⟨t', ht'⟩ := addAll_pre (l := l) (out := add1 out a)
    exact ⟨t ++ t', by rw [← List.append_assoc, ← ht, ← ht']; rfl⟩
theorem add1_nodup {out : List ν} {a : ν} (h : out.Nodup) : (add1 out a).Nodup := by
  unfold add1; split
  · exact h
  · rename_i hn
    rw [List.nodup_append]
    exact ⟨h, by simp, fun x hx y hy e => hn (by rw [List.mem_singleton.mp hy] at e; exact e ▸ hx)⟩
theorem addAll_nodup : ∀ {l out : List ν}, out.Nodup → (addAll out l).Nodup
  | [], _, h => h
  | a :: l, out, h => addAll_nodup (l := l) (add1_nodup h)
theorem bfs_pre (g : Gr ν) : ∀ (n i : Nat) (out : List ν), ∃ t, bfs g n i out = out ++ t
  | 0, _, out => ⟨[], by simp [bfs]⟩
  | n + 1, i, out => by
    unfold bfs
    split
    · rename_i a ha
      obtain ⟨t, ht⟩ := addAll_pre (l := refs g a) (out := out)
      obtain ⟨t', ht'⟩ := bfs_pre g n (i + 1) (addAll out (refs g a))
      exact ⟨t ++ t', by rw [ht', ht, List.append_assoc]⟩
    · exact ⟨[], by simp⟩
theorem bfs_nodup (g : Gr ν) : ∀ (n i : Nat) (out : List ν), out.Nodup → (bfs g n i out).Nodup
  | 0, _, _, h => h
  | n + 1, i, out, h => by
    unfold bfs
    split
    · exact bfs_nodup g n (i + 1) _ (addAll_nodup h)
    · exact h
theorem bfs_in (g : Gr ν) {D : ν → Prop} (hD : ∀ a, D a → ∀ b ∈ refs g a, D b) : ∀ (n i : Nat) (out : List ν), (∀ a ∈ out, D a) → ∀ a ∈ bfs g n i out, D a
  | 0, _, _, h => h
  | n + 1, i, out, h => by
    unfold bfs
    split
    · rename_i a ha
      exact bfs_in g hD n (i + 1) _ (fun x hx => by
        rcases addAll_sub.mp hx with hx | hx
        · exact h x hx
        · exact hD a (h a (List.mem_of_getElem? ha)) x hx)
    · exact h
theorem bfs_more (g : Gr ν) : ∀ (n i : Nat) (out : List ν), (bfs g n i out).length ≤ n + i → ∀ k, bfs g (n + k) i out = bfs g n i out
  | 0, i, out, h, k => by
    have h : out.length ≤ 0 + i := h
    cases k with
    | zero => rfl
    | succ k =>
      show bfs g (0 + k + 1) i out = out
      unfold bfs
      rw [List.getElem?_eq_none (by omega)]
  | n + 1, i, out, h, k => by
    rw [show n + 1 + k = n + k + 1 by omega]
    unfold bfs at h ⊢
    split
    · rename_i a ha
      rw [ha] at h
      exact bfs_more g n (i + 1) _ (by simp only at h; omega) k
    · rfl
theorem bfs_closed (g : Gr ν) : ∀ (n i : Nat) (out : List ν), (bfs g n i out).length ≤ n + i → (∀ j a, j < i → out[j]? = some a → ∀ b ∈ refs g a, b ∈ out) → ∀ a ∈ bfs g n i out, ∀ b ∈ refs g a, b ∈ bfs g n i out
  | 0, i, out, h, hc => by
    have h : out.length ≤ 0 + i := h
    intro a ha b hb
    obtain ⟨j, hj, rfl⟩ := List.getElem_of_mem ha
    exact hc j _ (by have : j < out.length := hj; omega) (List.getElem?_eq_getElem hj) b hb
  | n + 1, i, out, h, hc => by
    unfold bfs at h ⊢
    split
    · rename_i a ha
      rw [ha] at h
      refine bfs_closed g n (i + 1) _ (by simp only at h; omega) (fun j x hj hx b hb => ?_)
      obtain ⟨t, ht⟩ := addAll_pre (l := refs g a) (out := out)
      have hi := (List.getElem?_eq_some_iff.mp ha).1
      rw [ht, List.getElem?_append_left (by omega)] at hx
      rcases Nat.lt_or_ge j i with hlt | hge
      · exact addAll_sub.mpr (.inl (hc j x hlt hx b hb))
      · have : j = i := by omega
        subst this
        rw [ha] at hx
        obtain rfl := Option.some.inj hx
        exact addAll_sub.mpr (.inr hb)
    · rename_i hn
      rcases Nat.lt_or_ge i out.length with hi | hi
      · rw [List.getElem?_eq_getElem hi] at hn; cases hn
      intro a ha b hb
      obtain ⟨j, hj, rfl⟩ := List.getElem_of_mem ha
      exact hc j _ (by omega) (List.getElem?_eq_getElem hj) b hb
/-- All that tells of one another is among so many. -/
structure Fin' (g : Gr ν) (D : List ν) : Prop where
  now : ∀ a, g.now = some a → a ∈ D
  refs : ∀ a ∈ D, ∀ b ∈ refs g a, b ∈ D
theorem found_len {g : Gr ν} {D : List ν} (F : Fin' g D) (n : Nat) : (found g n).Nodup ∧ (∀ a ∈ found g n, a ∈ D) ∧ (found g n).length ≤ D.length := by
  have key : (found g n).Nodup ∧ ∀ a ∈ found g n, a ∈ D := by
    unfold found
    cases h : g.now with
    | none => simp
    | some a => exact ⟨bfs_nodup g n 0 [a] (by simp), bfs_in g (D := (· ∈ D)) F.refs n 0 [a] (fun x hx => by rw [List.mem_singleton.mp hx]; exact F.now a h)⟩
  exact ⟨key.1, key.2, length_le_of_sub key.1 key.2⟩
theorem found_more {g : Gr ν} {n : Nat} (h : (found g n).length ≤ n) (k : Nat) (hk : n ≤ k) : found g k = found g n := by
  unfold found at h ⊢
  cases hn : g.now with
  | none => rfl
  | some a =>
    rw [hn] at h
    simp only at h ⊢
    rw [show k = n + (k - n) by omega]
    exact bfs_more g n 0 [a] (by omega) _
theorem found_closed {g : Gr ν} {n : Nat} (h : (found g n).length ≤ n) : ∀ a ∈ found g n, ∀ b ∈ refs g a, b ∈ found g n := by
  unfold found at h ⊢
  cases hn : g.now with
  | none => simp
  | some a =>
    rw [hn] at h
    exact bfs_closed g n 0 [a] (by simpa using h) (fun j x hj => by omega)
theorem found_head {g : Gr ν} {n : Nat} {a : ν} (h : g.now = some a) : (found g n)[0]? = some a := by
  unfold found
  rw [h]
  obtain ⟨t, ht⟩ := bfs_pre g n 0 [a]
  simp only [ht]
  rfl
end Go.PT

/- Heaps that are alike stay alike: step by step. -/
set_option linter.unusedVariables false
set_option linter.unusedSimpArgs false
set_option linter.unusedSectionVars false
namespace Go.PT
variable {ν μ : Type} [DecidableEq ν] [DecidableEq μ]
def upd' {β : Type} (f : ν → β) (a : ν) (b : β) : ν → β := fun x => if x = a then b else f x
def Gr.put (g : Gr ν) (a : ν) (c : Cl) (s : Option ν) : Gr ν :=
  { now := g.now, met := upd' g.met a c.method, pc := upd' g.pc a c.pc, temps := upd' g.temps a c.temps, stack := upd' g.stack a c.stack, sender := upd' g.sender a s, dead := upd' g.dead a c.dead, rf := g.rf }
def Gr.setNow (g : Gr ν) (a : Option ν) : Gr ν := { g with now := a }
structure NdR (R : ν → μ → Prop) (f : Int → ν) (f' : Int → μ) (c : Cl) (s : Option ν) (c' : Cl) (s' : Option μ) : Prop where
  met : c.method = c'.method
  pc : c.pc = c'.pc
  dead : c.dead = c'.dead
  temps : RL (RV R f f') c.temps c'.temps
  stack : RL (RV R f f') c.stack c'.stack
  sender : RO R s s'
theorem RV.mono {R S : ν → μ → Prop} {f : Int → ν} {f' : Int → μ} {v v' : V} (h : RV R f f' v v') (hs : ∀ a b, R a b → S a b) : RV S f f' v v' := ⟨h.1, fun e => hs _ _ (h.2.1 e), h.2.2⟩
theorem RO.mono {α β : Type} {R S : α → β → Prop} (hs : ∀ a b, R a b → S a b) : ∀ {a : Option α} {b : Option β}, RO R a b → RO S a b
  | none, none, _ => trivial
  | some _, some _, h => hs _ _ h
def Gr.nd (g : Gr ν) (a : ν) : Cl := ⟨g.met a, g.pc a, g.temps a, g.stack a, 0, g.dead a⟩
theorem Iso.nd {g : Gr ν} {g' : Gr μ} {R : ν → μ → Prop} (I : Iso g g' R) {a : ν} {b : μ} (r : R a b) : NdR R g.rf g'.rf (g.nd a) (g.sender a) (g'.nd b) (g'.sender b) :=
  ⟨I.met r, I.pc r, I.dead r, I.temps r, I.stack r, I.sender r⟩
theorem iso_of {g : Gr ν} {g' : Gr μ} {R : ν → μ → Prop} (hR : Inj R) (h : ∀ a b, R a b → NdR R g.rf g'.rf (g.nd a) (g.sender a) (g'.nd b) (g'.sender b)) (hn : RO R g.now g'.now) : Iso g g' R :=
  ⟨hR.1, hR.2, fun r => (h _ _ r).met, fun r => (h _ _ r).pc, fun r => (h _ _ r).dead, fun r => (h _ _ r).temps, fun r => (h _ _ r).stack, fun r => (h _ _ r).sender, hn⟩
theorem put_nd (g : Gr ν) (a : ν) (c : Cl) (s : Option ν) (x : ν) : (x = a → (g.put a c s).nd x = ⟨c.method, c.pc, c.temps, c.stack, 0, c.dead⟩ ∧ (g.put a c s).sender x = s) ∧ (x ≠ a → (g.put a c s).nd x = g.nd x ∧ (g.put a c s).sender x = g.sender x) := by
  constructor
  · rintro rfl; simp [Gr.put, Gr.nd, upd']
  · intro h; simp [Gr.put, Gr.nd, upd', h]
theorem NdR.at0 {R : ν → μ → Prop} {f : Int → ν} {f' : Int → μ} {c c' : Cl} {s : Option ν} {s' : Option μ} (h : NdR R f f' c s c' s') : NdR R f f' ⟨c.method, c.pc, c.temps, c.stack, 0, c.dead⟩ s ⟨c'.method, c'.pc, c'.temps, c'.stack, 0, c'.dead⟩ s' :=
  ⟨h.met, h.pc, h.dead, h.temps, h.stack, h.sender⟩
theorem Iso.put {g : Gr ν} {g' : Gr μ} {R : ν → μ → Prop} (I : Iso g g' R) {a : ν} {b : μ} (r : R a b) {c c' : Cl} {s : Option ν} {s' : Option μ} (h : NdR R g.rf g'.rf c s c' s') : Iso (g.put a c s) (g'.put b c' s') R := by
  refine iso_of I.inj (fun x y rx => ?_) I.now
  have same : x = a ↔ y = b := ⟨fun e => I.one rx (e ▸ r), fun e => I.two rx (e ▸ r)⟩
  by_cases hx : x = a
  · obtain ⟨e1, e2⟩ := (put_nd g a c s x).1 hx
    obtain ⟨e3, e4⟩ := (put_nd g' b c' s' y).1 (same.mp hx)
    rw [e1, e2, e3, e4]
    exact h.at0
  · obtain ⟨e1, e2⟩ := (put_nd g a c s x).2 hx
    obtain ⟨e3, e4⟩ := (put_nd g' b c' s' y).2 (fun e => hx (same.mpr e))
    rw [e1, e2, e3, e4]
    exact I.nd rx
theorem NdR.mono {R S : ν → μ → Prop} {f : Int → ν} {f' : Int → μ} {c c' : Cl} {s : Option ν} {s' : Option μ} (h : NdR R f f' c s c' s') (hs : ∀ a b, R a b → S a b) : NdR S f f' c s c' s' :=
  ⟨h.met, h.pc, h.dead, h.temps.mono (fun _ _ _ _ h => h.mono hs), h.stack.mono (fun _ _ _ _ h => h.mono hs), h.sender.mono hs⟩
/-- A call that is born on both sides. -/
def addR (R : ν → μ → Prop) (a : ν) (b : μ) : ν → μ → Prop := fun x y => R x y ∨ (x = a ∧ y = b)
theorem Iso.add {g : Gr ν} {g' : Gr μ} {R : ν → μ → Prop} (I : Iso g g' R) {a : ν} {b : μ} (na : ∀ y, ¬ R a y) (nb : ∀ x, ¬ R x b) {c c' : Cl} {s : Option ν} {s' : Option μ} (h : NdR R g.rf g'.rf c s c' s') : Iso (g.put a c s) (g'.put b c' s') (addR R a b) := by
  refine iso_of ⟨?_, ?_⟩ (fun x y rx => ?_) (I.now.mono (fun _ _ h => .inl h))
  · rintro x y z (h1 | ⟨rfl, rfl⟩) (h2 | ⟨h3, rfl⟩)
    · exact I.one h1 h2
    · subst h3; exact absurd h1 (na _)
    · exact absurd h2 (na _)
    · rfl
  · rintro x y z (h1 | ⟨rfl, rfl⟩) (h2 | ⟨rfl, h3⟩)
    · exact I.two h1 h2
    · subst h3; exact absurd h1 (nb _)
    · exact absurd h2 (nb _)
    · rfl
  · rcases rx with rx | ⟨rfl, rfl⟩
    · have hx : x ≠ a := fun e => na y (e ▸ rx)
      have hy : y ≠ b := fun e => nb x (e ▸ rx)
      obtain ⟨e1, e2⟩ := (put_nd g a c s x).2 hx
      obtain ⟨e3, e4⟩ := (put_nd g' b c' s' y).2 hy
      rw [e1, e2, e3, e4]
      exact (I.nd rx).mono (fun _ _ h => .inl h)
    · obtain ⟨e1, e2⟩ := (put_nd g x c s x).1 rfl
      obtain ⟨e3, e4⟩ := (put_nd g' y c' s' y).1 rfl
      rw [e1, e2, e3, e4]
      exact h.at0.mono (fun _ _ h => .inl h)
theorem Iso.goTo {g : Gr ν} {g' : Gr μ} {R : ν → μ → Prop} (I : Iso g g' R) {a : Option ν} {b : Option μ} (h : RO R a b) : Iso (g.setNow a) (g'.setNow b) R :=
  iso_of I.inj (fun x y rx => I.nd rx) h

/-! ### heaps as graphs -/
def GH (h : Hp) : Gr Int where
  now := if h.now < 0 then none else some h.now
  met := fun i => (callAt h.calls i).method
  pc := fun i => (callAt h.calls i).pc
  temps := fun i => (callAt h.calls i).temps
  stack := fun i => (callAt h.calls i).stack
  sender := fun i => if (callAt h.calls i).sender < 0 then none else some (callAt h.calls i).sender
  dead := fun i => (callAt h.calls i).dead
  rf := fun n => n
def InH (h : Hp) (i : Int) : Prop := 0 ≤ i ∧ i < h.calls.length
def snd (c : Cl) : Option Int := if c.sender < 0 then none else some c.sender
theorem gh_put {h : Hp} {i : Int} {c : Cl} (hi : InH h i) : Agree ((GH h).put i c (snd c)) (GH (putC h i c)) (InH h) := by
  refine ⟨rfl, rfl, ?_, ?_, ?_, ?_, ?_, ?_⟩ <;>
  · intro j hj
    simp only [GH, Gr.put, upd', callAt_put hi.1 hi.2 hj.1]
    split <;> first | rfl | (unfold snd; rfl)
theorem gh_app {h : Hp} {c : Cl} {n b : Int} : Agree (((GH h).put h.calls.length c (snd c)).setNow (if n < 0 then none else some n)) (GH { h with calls := h.calls ++ [c], now := n, born := b }) (fun j => 0 ≤ j ∧ j < h.calls.length + 1) := by
  refine ⟨rfl, rfl, ?_, ?_, ?_, ?_, ?_, ?_⟩ <;>
  · intro j hj
    have e0 : callAt (h.calls ++ [c]) j = if j = (h.calls.length : Int) then c else callAt h.calls j := by
      rw [callAt_app hj.1]
      by_cases e : j = (h.calls.length : Int)
      · rw [if_neg (by omega), if_pos e, if_pos e]
      · rw [if_pos (by omega), if_neg e]
    simp only [GH, Gr.put, Gr.setNow, upd', e0]
    split <;> first | rfl | (unfold snd; rfl)
/-- Heaps that are alike. -/
structure SimH (h h' : Hp) (R : Int → Int → Prop) : Prop where
  iso : Iso (GH h) (GH h') R
  dom : ∀ a b, R a b → InH h a ∧ InH h' b
  said : h.said = h'.said
  code : h.code = h'.code
  born : h.born = h'.born
theorem InH.put {h : Hp} {i j : Int} {c : Cl} : InH (putC h i c) j ↔ InH h j := by unfold InH; rw [putC_len]
theorem SimH.put {h h' : Hp} {R : Int → Int → Prop} (S : SimH h h' R) {i j : Int} (r : R i j) {c c' : Cl} (hc : NdR R (GH h).rf (GH h').rf c (snd c) c' (snd c')) : SimH (putC h i c) (putC h' j c') R :=
  ⟨(S.iso.put r hc).agree (gh_put (S.dom _ _ r).1) (gh_put (S.dom _ _ r).2) S.dom, fun a b r => ⟨InH.put.mpr (S.dom a b r).1, InH.put.mpr (S.dom a b r).2⟩, S.said, S.code, S.born⟩
abbrev rvH (R : Int → Int → Prop) : V → V → Prop := RV R (fun n => n) (fun n => n)
theorem SimH.nd {h h' : Hp} {R : Int → Int → Prop} (S : SimH h h' R) {i j : Int} (r : R i j) : NdR R (fun n => n) (fun n => n) (callAt h.calls i) (snd (callAt h.calls i)) (callAt h'.calls j) (snd (callAt h'.calls j)) :=
  ⟨S.iso.met r, S.iso.pc r, S.iso.dead r, S.iso.temps r, S.iso.stack r, S.iso.sender r⟩
theorem SimH.nowR {h h' : Hp} {R : Int → Int → Prop} (S : SimH h h' R) (h0 : 0 ≤ h.now) : R h.now h'.now ∧ 0 ≤ h'.now := by
  have := S.iso.now
  simp only [GH] at this
  rw [if_neg (by omega)] at this
  split at this
  · cases this
  · exact ⟨this, by omega⟩
theorem SimH.code' {h h' : Hp} {R : Int → Int → Prop} (S : SimH h h' R) (k : Int) : SimH { h with code := k } { h' with code := k } R :=
  ⟨S.iso.agree (D := fun _ => True) (D' := fun _ => True) ⟨rfl, rfl, fun _ _ => rfl, fun _ _ => rfl, fun _ _ => rfl, fun _ _ => rfl, fun _ _ => rfl, fun _ _ => rfl⟩ ⟨rfl, rfl, fun _ _ => rfl, fun _ _ => rfl, fun _ _ => rfl, fun _ _ => rfl, fun _ _ => rfl, fun _ _ => rfl⟩ (fun _ _ _ => ⟨trivial, trivial⟩), S.dom, S.said, rfl, S.born⟩
theorem SimH.say' {h h' : Hp} {R : Int → Int → Prop} (S : SimH h h' R) (v : V) : SimH { h with said := h.said ++ [v] } { h' with said := h'.said ++ [v] } R :=
  ⟨S.iso.agree (D := fun _ => True) (D' := fun _ => True) ⟨rfl, rfl, fun _ _ => rfl, fun _ _ => rfl, fun _ _ => rfl, fun _ _ => rfl, fun _ _ => rfl, fun _ _ => rfl⟩ ⟨rfl, rfl, fun _ _ => rfl, fun _ _ => rfl, fun _ _ => rfl, fun _ _ => rfl, fun _ _ => rfl, fun _ _ => rfl⟩ (fun _ _ _ => ⟨trivial, trivial⟩), S.dom, by rw [S.said], S.code, S.born⟩
theorem SimH.push {h h' : Hp} {R : Int → Int → Prop} (S : SimH h h' R) (h0 : 0 ≤ h.now) {v v' : V} (hv : rvH R v v') : SimH (pushH h v) (pushH h' v') R := by
  obtain ⟨r, _⟩ := S.nowR h0
  have n := S.nd r
  exact S.put r ⟨n.met, n.pc, n.dead, n.temps, n.stack.app ⟨hv, trivial⟩, n.sender⟩
theorem rv_num {R : Int → Int → Prop} {x : Int} : rvH R (1, x) (1, x) := ⟨rfl, fun e => (by cases e), fun _ => rfl⟩
theorem rv_none {R : Int → Int → Prop} : rvH R (0, 0) (0, 0) := ⟨rfl, fun e => (by cases e), fun _ => rfl⟩
theorem rv_call {R : Int → Int → Prop} {i j : Int} (r : R i j) : rvH R (2, i) (2, j) := ⟨rfl, fun _ => r, fun e => absurd rfl e⟩
theorem rv_bit {R : Int → Int → Prop} {b : Bool} : rvH R (bitV b) (bitV b) := by cases b <;> exact rv_num
theorem pairAt_rel {R : V → V → Prop} {l m : List V} (h : RL R l m) (h0 : R (0, 0) (0, 0)) (i : Int) : R (pairAt l i) (pairAt m i) := by
  unfold pairAt
  rw [List.getD_eq_getElem?_getD, List.getD_eq_getElem?_getD]
  have hl := h.len
  rcases Nat.lt_or_ge i.toNat l.length with hi | hi
  · rw [List.getElem?_eq_getElem hi, List.getElem?_eq_getElem (hl ▸ hi)]
    exact h.get (List.getElem?_eq_getElem hi) (List.getElem?_eq_getElem (hl ▸ hi))
  · rw [List.getElem?_eq_none hi, List.getElem?_eq_none (hl ▸ hi)]
    exact h0
theorem rv_eq {ν μ : Type} {R : ν → μ → Prop} {f : Int → ν} {f' : Int → μ} (hR : Inj R) (hf : ∀ x y, f x = f y → x = y) (hf' : ∀ x y, f' x = f' y → x = y) {a b : V} {a' b' : V} (h : RV R f f' a a') (k : RV R f f' b b') : (a = b ↔ a' = b') := by
  constructor
  · rintro rfl
    refine Prod.ext (h.1.symm.trans k.1) ?_
    by_cases e : a.1 = 2
    · exact hf' _ _ (hR.1 (h.2.1 e) (k.2.1 e))
    · exact (h.2.2 e).symm.trans (k.2.2 e)
  · rintro rfl
    refine Prod.ext (h.1.trans k.1.symm) ?_
    by_cases e : a.1 = 2
    · exact hf _ _ (hR.2 (h.2.1 e) (k.2.1 (by rw [k.1, ← h.1]; exact e)))
    · exact (h.2.2 e).trans (k.2.2 (by rw [k.1, ← h.1]; exact e)).symm
theorem kinds_rel {ν μ : Type} {R : ν → μ → Prop} {f : Int → ν} {f' : Int → μ} {op : Int × Int} {l m : List V} (h : RL (fun a b : V => a.1 = b.1) l m) : kindsOk op l = kindsOk op m := by
  unfold kindsOk
  rw [pairAt_rel h rfl 0, pairAt_rel h rfl 1]
theorem made_rel {ν μ : Type} {R : ν → μ → Prop} {f : Int → ν} {f' : Int → μ} (hR : Inj R) (hf : ∀ x y, f x = f y → x = y) (hf' : ∀ x y, f' x = f' y → x = y) {op : Int × Int} {l m : List V} (h : RL (RV R f f') l m) (hk : kindsOk op l = true) :
    RO (RV R f f') (madeV op l) (madeV op m) := by
  have h00 : RV R f f' (0, 0) (0, 0) := ⟨rfl, fun e => (by cases e), fun _ => rfl⟩
  have a0 := pairAt_rel h h00 0
  have a1 := pairAt_rel h h00 1
  unfold madeV
  by_cases c1 : op.1 = 1
  · rw [if_pos c1, if_pos c1]; exact ⟨rfl, fun e => (by cases e), fun _ => rfl⟩
  · rw [if_neg c1, if_neg c1]
    by_cases c5 : op.1 = 5
    · rw [if_pos c5, if_pos c5]
      unfold kindsOk at hk
      rw [if_pos c5, Bool.and_eq_true, decide_eq_true_eq, decide_eq_true_eq] at hk
      rw [a0.2.2 (by rw [hk.1]; decide), a1.2.2 (by rw [hk.2]; decide)]
      exact ⟨rfl, fun e => (by cases e), fun _ => rfl⟩
    · rw [if_neg c5, if_neg c5]
      by_cases c6 : op.1 = 6
      · rw [if_pos c6, if_pos c6]
        have : (pairAt l 0 == pairAt l 1) = (pairAt m 0 == pairAt m 1) := by
          rw [Bool.eq_iff_iff, beq_iff_eq, beq_iff_eq]; exact rv_eq hR hf hf' a0 a1
        rw [this]
        cases (pairAt m 0 == pairAt m 1) <;> exact ⟨rfl, fun e => (by cases e), fun _ => rfl⟩
      · rw [if_neg c6, if_neg c6]; trivial
theorem die_nd {R : ν → μ → Prop} {f : Int → ν} {f' : Int → μ} {c c' : Cl} {s : Option ν} {s' : Option μ} (h : NdR R f f' c s c' s') : NdR R f f' (dieC c) none (dieC c') none := ⟨h.met, h.pc, rfl, h.temps, trivial, trivial⟩
theorem SimH.leave {h h' : Hp} {R : Int → Int → Prop} (S : SimH h h' R) (h0 : 0 ≤ h.now) : SimH (leaveH h) (leaveH h') R := by
  obtain ⟨r, h0'⟩ := S.nowR h0
  have n := S.nd r
  have T := S.put r (c := dieC (nowC h)) (c' := dieC (nowC h')) (die_nd n)
  refine ⟨(T.iso.goTo (a := snd (nowC h)) (b := snd (nowC h')) n.sender).agree (D := fun _ => True) (D' := fun _ => True) ⟨rfl, rfl, fun _ _ => rfl, fun _ _ => rfl, fun _ _ => rfl, fun _ _ => rfl, fun _ _ => rfl, fun _ _ => rfl⟩
    ⟨rfl, rfl, fun _ _ => rfl, fun _ _ => rfl, fun _ _ => rfl, fun _ _ => rfl, fun _ _ => rfl, fun _ _ => rfl⟩ (fun _ _ _ => ⟨trivial, trivial⟩), T.dom, S.said, S.code, S.born⟩
theorem SimH.back {to to' : Int} {R : Int → Int → Prop} (rt : R to to') : ∀ (l : List Int) (n n' : Nat) (h h' : Hp), Way h.calls h.now l → to ∈ l → l.length ≤ n + 1 → l.length ≤ n' + 1 → SimH h h' R → SimH (backL n h to) (backL n' h' to') R
  | [], _, _, _, _, _, ht, _, _, _ => by simp at ht
  | x :: l, n, n', h, h', hw, ht, hl, hl', S => by
    have h0 : 0 ≤ h.now := by rw [hw.1]; exact hw.2.1
    obtain ⟨r, h0'⟩ := S.nowR h0
    by_cases e : h.now = to
    · have e' : h'.now = to' := by rw [e] at r; exact S.iso.one r rt
      have a : backL n h to = h := by cases n <;> (unfold backL; first | rfl | rw [if_pos e])
      have b : backL n' h' to' = h' := by cases n' <;> (unfold backL; first | rfl | rw [if_pos e'])
      rw [a, b]; exact S
    · have e' : h'.now ≠ to' := fun e2 => e (S.iso.two r (e2 ▸ rt))
      have hlw := leave_way hw h0
      have ht' : to ∈ l := by
        rcases List.mem_cons.mp ht with h1 | h1
        · exact absurd (hw.1.trans h1.symm) e
        · exact h1
      have hpos := List.length_pos_of_mem ht'
      cases n with
      | zero => rw [List.length_cons] at hl; omega
      | succ n =>
        cases n' with
        | zero => rw [List.length_cons] at hl'; omega
        | succ n' =>
          unfold backL
          rw [if_neg e, if_neg e']
          exact SimH.back rt l n n' _ _ hlw ht' (by simpa using hl) (by simpa using hl') (S.leave h0)
theorem RL.nodup {R : ν → μ → Prop} (hR : Inj R) : ∀ {l : List ν} {m : List μ}, RL R l m → l.Nodup → m.Nodup
  | [], [], _, _ => by simp
  | x :: l, y :: m, h, hx => by
    obtain ⟨h2, h3⟩ := List.nodup_cons.mp hx
    refine List.nodup_cons.mpr ⟨fun hy => ?_, RL.nodup hR h.2 h3⟩
    obtain ⟨x', hx', hr'⟩ := h.2.flip.mem hy
    exact h2 (hR.2 h.1 hr' ▸ hx')
theorem said_rel {h h' : Hp} {R : Int → Int → Prop} (S : SimH h h' R) {v v' : V} (hv : rvH R v v') : saidV h v = saidV h' v' := by
  unfold saidV
  by_cases e : v.1 = 2
  · rw [if_pos e, if_pos (hv.1 ▸ e)]
    have : (callAt h.calls v.2).method = (callAt h'.calls v'.2).method := S.iso.met (hv.2.1 e)
    rw [this, hv.1]
  · rw [if_neg e, if_neg (hv.1 ▸ e)]
    exact Prod.ext hv.1 (hv.2.2 e)
theorem look_rel {h h' : Hp} {R : Int → Int → Prop} (S : SimH h h' R) {i j : Int} (r : R i j) (op : Int × Int) : rvH R (lookV h op i) (lookV h' op j) := by
  have n := S.nd r
  have hs := n.sender
  unfold lookV
  by_cases c12 : op.1 = 12
  · rw [if_pos c12, if_pos c12]
    unfold snd at hs
    by_cases e : (callAt h.calls i).sender < 0
    · rw [if_pos e] at hs
      split at hs
      · rw [if_neg (by omega), if_neg (by omega)]; exact rv_none
      · cases hs
    · rw [if_neg e] at hs
      split at hs
      · cases hs
      · rw [if_pos (by omega), if_pos (by omega)]; exact rv_call hs
  · rw [if_neg c12, if_neg c12]
    by_cases c13 : op.1 = 13
    · rw [if_pos c13, if_pos c13, n.temps.len]
      split
      · exact pairAt_rel n.temps rv_none _
      · exact rv_none
    · rw [if_neg c13, if_neg c13]
      by_cases c17 : op.1 = 17
      · rw [if_pos c17, if_pos c17, n.dead]; exact rv_bit
      · rw [if_neg c17, if_neg c17]
        by_cases c18 : op.1 = 18
        · rw [if_pos c18, if_pos c18, n.pc]; exact rv_num
        · rw [if_neg c18, if_neg c18]; exact rv_none
theorem new_rel {ν μ : Type} {R : ν → μ → Prop} {f : Int → ν} {f' : Int → μ} {p : Pg} {k s s' : Int} {args args' : List V} (h : RL (RV R f f') args args') : RL (RV R f f') (newC p k args s).temps (newC p k args' s').temps := by
  unfold newC
  rw [h.len]
  exact h.app (RL.self (fun v hv => by rw [(List.mem_replicate.mp hv).2]; exact ⟨rfl, fun e => (by cases e), fun _ => rfl⟩))
variable {p : Pg} {h h' : Hp} {R : Int → Int → Prop}
theorem SimH.doStep {op : Int × Int} {args args' : List V} (D : DoPre p h op args) (H' : HOK p h') (S : SimH h h' R) (ha : RL (rvH R) args args') : ∃ R', SimH (doH p h op args) (doH p h' op args') R' := by
  have H := D.ok
  have hr := D.run
  have h0 := H.now0 hr
  have h1 := H.now2
  obtain ⟨r, h0'⟩ := S.nowR h0
  have n := S.nd r
  have a0 := pairAt_rel ha rv_none 0
  have a1 := pairAt_rel ha rv_none 1
  have hm := made_rel S.iso.inj (fun _ _ h => h) (fun _ _ h => h) ha D.kinds
  have hkk : op.1 = 12 ∨ op.1 = 13 ∨ op.1 = 17 ∨ op.1 = 18 ∨ op.1 = 14 ∨ op.1 = 15 → (pairAt args 0).1 = 2 := fun hc => by
    have hk := D.kinds
    unfold kindsOk at hk
    rw [if_neg (by omega), if_pos hc] at hk
    simpa using hk
  unfold doH
  cases hv : madeV op args with
  | some v =>
    cases hv' : madeV op args' with
    | none => rw [hv, hv'] at hm; cases hm
    | some v' =>
      rw [hv, hv'] at hm
      exact ⟨R, S.push h0 hm⟩
  | none =>
    cases hv' : madeV op args' with
    | some v' => rw [hv, hv'] at hm; cases hm
    | none =>
      simp only
      by_cases c2 : op.1 = 2
      · rw [if_pos c2, if_pos c2]; exact ⟨R, S.push h0 (pairAt_rel n.temps rv_none _)⟩
      rw [if_neg c2, if_neg c2]
      by_cases c3 : op.1 = 3
      · rw [if_pos c3, if_pos c3]
        exact ⟨R, S.put r ⟨n.met, n.pc, n.dead, n.temps.set _ a0, n.stack, n.sender⟩⟩
      rw [if_neg c3, if_neg c3]
      have jump : SimH (setPc h op.2) (setPc h' op.2) R := S.put r ⟨n.met, rfl, n.dead, n.temps, n.stack, n.sender⟩
      by_cases c7 : op.1 = 7
      · rw [if_pos c7, if_pos c7]; exact ⟨R, jump⟩
      rw [if_neg c7, if_neg c7]
      by_cases c8 : op.1 = 8
      · rw [if_pos c8, if_pos c8]
        have : ((pairAt args 0).1 = 0 ∨ pairAt args 0 = (1, 0)) ↔ ((pairAt args' 0).1 = 0 ∨ pairAt args' 0 = (1, 0)) := by
          rw [a0.1, rv_eq S.iso.inj (fun _ _ h => h) (fun _ _ h => h) a0 rv_num]
        by_cases e : (pairAt args 0).1 = 0 ∨ pairAt args 0 = (1, 0)
        · rw [if_pos e, if_pos (this.mp e)]; exact ⟨R, jump⟩
        · rw [if_neg e, if_neg (fun e' => e (this.mpr e'))]; exact ⟨R, S⟩
      rw [if_neg c8, if_neg c8]
      by_cases c9 : op.1 = 9
      · rw [if_pos c9, if_pos c9]
        unfold callH
        by_cases hb : 30 ≤ h.born
        · rw [if_pos hb, if_pos (S.born ▸ hb)]
          exact ⟨R, S.code' 3⟩
        · rw [if_neg hb, if_neg (S.born ▸ hb)]
          have nd : NdR R (fun n => n) (fun n => n) (newC p op.2 args h.now) (snd (newC p op.2 args h.now)) (newC p op.2 args' h'.now) (snd (newC p op.2 args' h'.now)) := by
            refine ⟨rfl, rfl, rfl, new_rel ha, trivial, ?_⟩
            unfold snd newC
            rw [if_neg (by simp; omega), if_neg (by simp; omega)]
            exact r
          have J := (S.iso.add (a := (h.calls.length : Int)) (b := (h'.calls.length : Int)) (fun y ry => by have := (S.dom _ _ ry).1.2; omega) (fun x rx => by have := (S.dom _ _ rx).2.2; omega) nd).goTo (a := some (h.calls.length : Int)) (b := some (h'.calls.length : Int)) (.inr ⟨rfl, rfl⟩)
          have e : ∀ n : Nat, (if ((n : Nat) : Int) < 0 then none else some ((n : Nat) : Int)) = some (n : Int) := fun n => if_neg (by omega)
          refine ⟨_, J.agree (by have := gh_app (h := h) (c := newC p op.2 args h.now) (n := h.calls.length) (b := h.born + 1); rw [e] at this; exact this) (by have := gh_app (h := h') (c := newC p op.2 args' h'.now) (n := h'.calls.length) (b := h'.born + 1); rw [e] at this; exact this) (fun a b rab => ?_), fun a b rab => ?_, S.said, S.code, by show h.born + 1 = h'.born + 1; rw [S.born]⟩
          · rcases rab with rab | ⟨rfl, rfl⟩
            · have := S.dom _ _ rab; unfold InH at this; omega
            · omega
          · unfold InH
            simp only [List.length_append, List.length_cons, List.length_nil]
            rcases rab with rab | ⟨rfl, rfl⟩
            · have := S.dom _ _ rab; unfold InH at this; omega
            · omega
      rw [if_neg c9, if_neg c9]
      by_cases c10 : op.1 = 10
      · rw [if_pos c10, if_pos c10]
        have L := S.leave h0
        have hs := n.sender
        unfold retH
        unfold snd at hs
        by_cases e : (nowC h).sender < 0
        · have e : (callAt h.calls h.now).sender < 0 := e
          rw [if_pos e] at hs
          split at hs
          · rename_i e'
            rw [if_pos (show (nowC h).sender < 0 from e), if_pos (show (nowC h').sender < 0 from e')]
            have := said_rel L a0
            refine ⟨R, ?_⟩
            unfold sayH
            rw [this]
            exact (L.say' _).code' 1
          · cases hs
        · have e : ¬ (callAt h.calls h.now).sender < 0 := e
          rw [if_neg e] at hs
          split at hs
          · cases hs
          · rename_i e'
            rw [if_neg (show ¬ (nowC h).sender < 0 from e), if_neg (show ¬ (nowC h').sender < 0 from e')]
            exact ⟨R, L.push (by show 0 ≤ (nowC h).sender; have : ¬ (nowC h).sender < 0 := e; omega) a0⟩
      rw [if_neg c10, if_neg c10]
      by_cases c11 : op.1 = 11
      · rw [if_pos c11, if_pos c11]; exact ⟨R, S.push h0 (rv_call r)⟩
      rw [if_neg c11, if_neg c11]
      by_cases c12 : op.1 = 12 ∨ op.1 = 13 ∨ op.1 = 17 ∨ op.1 = 18
      · rw [if_pos c12, if_pos c12]; exact ⟨R, S.push h0 (look_rel S (a0.2.1 (hkk (by omega))) op)⟩
      rw [if_neg c12, if_neg c12]
      by_cases c14 : op.1 = 14
      · rw [if_pos c14, if_pos c14]
        have rr := a0.2.1 (hkk (by omega))
        have nn := S.nd rr
        unfold pokeH
        rw [nn.temps.len]
        split
        · exact ⟨R, S.put rr ⟨nn.met, nn.pc, nn.dead, nn.temps.set _ a1, nn.stack, nn.sender⟩⟩
        · exact ⟨R, S⟩
      rw [if_neg c14, if_neg c14]
      by_cases c15 : op.1 = 15
      · rw [if_pos c15, if_pos c15]
        have rr := a0.2.1 (hkk (by omega))
        have nn := S.nd rr
        unfold backH
        have hd := nn.dead
        by_cases e : (callAt h.calls (pairAt args 0).2).dead = true
        · rw [if_pos e, if_pos (hd ▸ e)]; exact ⟨R, S.code' 2⟩
        · rw [if_neg e, if_neg (hd ▸ e)]
          obtain ⟨l, hw, hcov, _⟩ := H.way
          have hin := hcov _ (S.dom _ _ rr).1.1 (S.dom _ _ rr).1.2 (by simpa using e)
          have hl := hw.len
          obtain ⟨l', hw', hcov', _⟩ := H'.way
          have hl' : l.length ≤ h'.calls.length := by
            -- the way's image lies among the other heap's calls
            have key : ∀ (l : List Int) (a b : Int), Way h.calls a l → (a < 0 ∧ b < 0 ∨ R a b) → ∃ m, RL R l m := by
              intro l
              induction l with
              | nil => exact fun _ _ _ _ => ⟨[], trivial⟩
              | cons x l ih =>
                rintro a b ⟨rfl, x0, x1, x2, hw⟩ hab
                have hab : R a b := by
                  rcases hab with h1 | h1
                  · omega
                  · exact h1
                have hsn := (S.nd hab).sender
                unfold snd at hsn
                obtain ⟨m, hm⟩ := ih _ (callAt h'.calls b).sender hw (by
                  split at hsn <;> split at hsn
                  · exact .inl ⟨by assumption, by assumption⟩
                  · cases hsn
                  · cases hsn
                  · exact .inr hsn)
                exact ⟨b :: m, hab, hm⟩
            obtain ⟨m, hm⟩ := key l _ _ hw (.inr r)
            have hnd : m.Nodup := hm.nodup S.iso.inj hw.nodup
            rw [hm.len]
            have : m.length ≤ ((List.range h'.calls.length).map (fun n : Nat => (n : Int))).length := length_le_of_sub hnd (fun y hy => by
              obtain ⟨x', hx', hr'⟩ := hm.flip.mem hy
              have q := (S.dom _ _ hr').2
              have q1 := q.1
              have q2 := q.2
              exact List.mem_map.mpr ⟨y.toNat, List.mem_range.mpr (by omega), by omega⟩)
            simpa using this
          have B := SimH.back rr l h.calls.length h'.calls.length h h' hw hin (by omega) (by omega) S
          obtain ⟨b1, b2, b3, _⟩ := back_ok h.calls.length l h hw H hr hin (by omega)
          exact ⟨R, B.push (by rw [b2]; exact (S.dom _ _ rr).1.1) a1⟩
      rw [if_neg c15, if_neg c15]
      by_cases c16 : op.1 = 16
      · rw [if_pos c16, if_pos c16]
        refine ⟨R, ?_⟩
        unfold sayH
        rw [said_rel S a0]
        exact S.say' _
      rw [if_neg c16, if_neg c16]
      exact ⟨R, S⟩
theorem SimH.step (H : HOK p h) (H' : HOK p h') (hr : h.code = 0) (S : SimH h h' R) : ∃ R', SimH (stepH p h) (stepH p h') R' := by
  have h0 := H.now0 hr
  have hr' : h'.code = 0 := S.code ▸ hr
  obtain ⟨r, h0'⟩ := S.nowR h0
  have n := S.nd r
  have e1 : (nowC h).method = (nowC h').method := n.met
  have e2 : (nowC h).pc = (nowC h').pc := n.pc
  have e3 : (nowC h).stack.length = (nowC h').stack.length := n.stack.len
  have o1 : opsNow p h = opsNow p h' := by unfold opsNow; rw [e1]
  have o2 : opNow p h = opNow p h' := by unfold opNow; rw [o1, e2]
  have o3 : leftNow p h = leftNow p h' := by unfold leftNow; rw [o2, e3]
  have ha : RL (rvH R) (argsNow p h) (argsNow p h') := by unfold argsNow; rw [o3]; exact n.stack.drop _
  have hk : kindsOk (opNow p h) (argsNow p h) = kindsOk (opNow p h) (argsNow p h') := kinds_rel (R := R) (f := fun n => n) (f' := fun n => n) (ha.mono (fun _ _ _ _ h => h.1))
  unfold stepH
  rw [← o1, ← e2, ← o2, ← o3, ← hk]
  split
  · exact ⟨R, S.code' 2⟩
  split
  · exact ⟨R, S.code' 2⟩
  split
  · exact ⟨R, S.code' 2⟩
  · rename_i c1 c2 c3
    have D := step_pre H hr c1 c2 c3
    have D' : HOK p (tookH p h') := by
      refine (step_pre H' hr' ?_ ?_ ?_).ok
      · rw [← o1, ← e2]; exact c1
      · rw [← o2, ← o3]; exact c2
      · rw [← o2, ← hk]; exact c3
    have T : SimH (tookH p h) (tookH p h') R := by
      unfold tookH
      refine S.put r ⟨n.met, ?_, n.dead, n.temps, ?_, n.sender⟩
      · show (nowC h).pc + 1 = (nowC h').pc + 1; rw [e2]
      · show RL (rvH R) ((nowC h).stack.take _) ((nowC h').stack.take _); rw [o3]; exact n.stack.take _
    exact T.doStep D D' ha
theorem SimH.run : ∀ (n : Nat) (h h' : Hp) (R : Int → Int → Prop), HOK p h → HOK p h' → SimH h h' R → ∃ R', SimH (runH p n h) (runH p n h') R'
  | 0, _, _, R, _, _, S => ⟨R, S⟩
  | n + 1, h, h', R, H, H', S => by
    unfold runH
    rw [← S.code]
    split
    · rename_i hr
      obtain ⟨R', S'⟩ := S.step H H' hr
      exact SimH.run n _ _ R' (step_ok H hr) (step_ok H' (S.code ▸ hr)) S'
    · exact ⟨R, S⟩
end Go.PT

/- What is asked of calls that tell of one another holds in graphs that are alike; a heap of what is seen. -/
set_option linter.unusedVariables false
set_option linter.unusedSimpArgs false
set_option linter.unusedSectionVars false
namespace Go.PT
variable {ν μ : Type} [DecidableEq ν] [DecidableEq μ]
def VOk (f : Int → ν) (D : ν → Prop) (v : V) : Prop := (v.1 = 0 ∧ v.2 = 0) ∨ (v.1 = 1 ∧ 0 ≤ v.2 ∧ v.2 ≤ 999) ∨ (v.1 = 2 ∧ D (f v.2))
def WayG (g : Gr ν) : Option ν → List ν → Prop
  | none, [] => True
  | some a, x :: l => a = x ∧ g.dead x = false ∧ WayG g (g.sender x) l
  | _, _ => False
structure GNd (p : Pg) (g : Gr ν) (D : ν → Prop) (a : ν) : Prop where
  m0 : 0 ≤ g.met a
  m1 : g.met a < p.length
  pc0 : 0 ≤ g.pc a
  pc1 : g.pc a ≤ (methAt p (g.met a)).ops.length
  temps : ((g.temps a).length : Int) = (methAt p (g.met a)).temps
  stack : ((g.stack a).length : Int) ≤ 6
  sender : ∀ b, g.sender a = some b → D b
  tv : ∀ v ∈ g.temps a, VOk g.rf D v
  sv : ∀ v ∈ g.stack a, VOk g.rf D v
  dead : g.dead a = true → g.sender a = none ∧ g.stack a = []
structure GOK (p : Pg) (g : Gr ν) (D : ν → Prop) : Prop where
  nd : ∀ a, D a → GNd p g D a
  now : ∀ a, g.now = some a → D a
  way : ∃ l, WayG g g.now l ∧ (∀ a, D a → g.dead a = false → a ∈ l) ∧ ∀ a ∈ l.tail, ((g.stack a).length : Int) < 6
theorem WayG.rel {g : Gr ν} {g' : Gr μ} {R : ν → μ → Prop} (I : Iso g g' R) : ∀ {l : List ν} {a : Option ν} {b : Option μ}, WayG g a l → RO R a b → ∃ l', WayG g' b l' ∧ RL R l l'
  | [], none, none, _, _ => ⟨[], trivial, trivial⟩
  | x :: l, some a, some b, ⟨h1, h2, h3⟩, r => by
    subst h1
    have r : R a b := r
    obtain ⟨l', k1, k2⟩ := WayG.rel I h3 (I.sender r)
    exact ⟨b :: l', ⟨rfl, by rw [← I.dead r]; exact h2, k1⟩, r, k2⟩
theorem VOk.rel {R : ν → μ → Prop} {f : Int → ν} {f' : Int → μ} {D : ν → Prop} {D' : μ → Prop} (hD : ∀ a b, R a b → D a → D' b) {v : V} {v' : V} (h : RV R f f' v v') (hv : VOk f D v) : VOk f' D' v' := by
  rcases hv with ⟨h1, h2⟩ | ⟨h1, h2⟩ | ⟨h1, h2⟩
  · exact .inl ⟨h.1 ▸ h1, (h.2.2 (by rw [h1]; decide)) ▸ h2⟩
  · exact .inr (.inl ⟨h.1 ▸ h1, (h.2.2 (by rw [h1]; decide)) ▸ h2⟩)
  · exact .inr (.inr ⟨h.1 ▸ h1, hD _ _ (h.2.1 h1) h2⟩)
theorem GOK.iso {p : Pg} {g : Gr ν} {g' : Gr μ} {R : ν → μ → Prop} {D : ν → Prop} {D' : μ → Prop} (G : GOK p g D) (I : Iso g g' R) (h1 : ∀ b, D' b → ∃ a, R a b ∧ D a) (h2 : ∀ a b, R a b → D a → D' b) : GOK p g' D' := by
  refine ⟨fun b hb => ?_, fun b hb => ?_, ?_⟩
  · obtain ⟨a, r, ha⟩ := h1 b hb
    have n := G.nd a ha
    have em := I.met r
    refine ⟨em ▸ n.m0, em ▸ n.m1, I.pc r ▸ n.pc0, ?_, ?_, ?_, fun c hc => ?_, fun v hv => ?_, fun v hv => ?_, fun hd => ?_⟩
    · rw [← em, ← I.pc r]; exact n.pc1
    · rw [← em, ← (I.temps r).len]; exact n.temps
    · rw [← (I.stack r).len]; exact n.stack
    · have hs := I.sender r
      rw [hc] at hs
      cases h : g.sender a with
      | none => rw [h] at hs; cases hs
      | some x => rw [h] at hs; exact h2 _ _ hs (n.sender x h)
    · obtain ⟨u, hu, hr⟩ := (I.temps r).flip.mem hv
      exact VOk.rel h2 hr (n.tv u hu)
    · obtain ⟨u, hu, hr⟩ := (I.stack r).flip.mem hv
      exact VOk.rel h2 hr (n.sv u hu)
    · obtain ⟨k1, k2⟩ := n.dead ((I.dead r).trans hd)
      have hs := I.sender r
      have hl := (I.stack r).len
      rw [k1] at hs
      rw [k2] at hl
      refine ⟨?_, List.length_eq_zero_iff.mp hl.symm⟩
      cases h : g'.sender b with
      | none => rfl
      | some x => rw [h] at hs; cases hs
  · have hn := I.now
    rw [hb] at hn
    cases h : g.now with
    | none => rw [h] at hn; cases hn
    | some x => rw [h] at hn; exact h2 _ _ hn (G.now x h)
  · obtain ⟨l, k1, k2, k3⟩ := G.way
    obtain ⟨l', q1, q2⟩ := k1.rel I I.now
    refine ⟨l', q1, fun b hb hd => ?_, fun b hb => ?_⟩
    · obtain ⟨a, r, ha⟩ := h1 b hb
      have := k2 a ha ((I.dead r).trans hd)
      obtain ⟨b', hb', r'⟩ := q2.mem this
      exact I.one r r' ▸ hb'
    · have q3 : RL R l.tail l'.tail := by
        cases l <;> cases l'
        · trivial
        · cases q2
        · cases q2
        · exact q2.2
      obtain ⟨a, ha, r⟩ := q3.flip.mem hb
      rw [← (I.stack r).len]; exact k3 a ha

/-! ### heaps -/
theorem vok_heap {h : Hp} {v : V} : VOk (GH h).rf (InH h) v ↔ valOk h.calls.length v = true := by
  constructor
  · rintro (⟨h1, h2⟩ | ⟨h1, h2, h3⟩ | ⟨h1, h2⟩)
    · unfold valOk; simp [h1, h2]
    · unfold valOk; simp [h1, inB_iff]; omega
    · have h2 : 0 ≤ v.2 ∧ v.2 < h.calls.length := h2
      unfold valOk; simp [h1, inB_iff]; omega
  · intro hv
    rcases valOk_kind hv with h1 | h1 | h1
    · exact .inl ⟨h1, valOk_none hv h1⟩
    · exact .inr (.inl ⟨h1, valOk_num hv h1⟩)
    · exact .inr (.inr ⟨h1, valOk_call hv h1⟩)
theorem way_heap {h : Hp} : ∀ {l : List Int} {a : Int}, a < h.calls.length → (∀ x, InH h x → (callAt h.calls x).sender < h.calls.length) → (Way h.calls a l ↔ WayG (GH h) (if a < 0 then none else some a) l)
  | [], a, _, _ => by
    by_cases ha : a < 0
    · rw [if_pos ha]; exact ⟨fun _ => trivial, fun _ => ha⟩
    · rw [if_neg ha]; exact ⟨fun h => absurd h ha, fun h => by cases h⟩
  | x :: l, a, hl, hs => by
    by_cases ha : a < 0
    · rw [if_pos ha]; exact ⟨fun ⟨h1, h2, _⟩ => by omega, fun h => by cases h⟩
    · rw [if_neg ha]
      constructor
      · rintro ⟨h1, h2, h3, h4, h5⟩
        exact ⟨h1, h4, (way_heap (hs x ⟨h2, h3⟩) hs).mp h5⟩
      · rintro ⟨h1, h4, h5⟩
        subst h1
        exact ⟨rfl, by omega, hl, h4, (way_heap (hs a ⟨by omega, hl⟩) hs).mpr h5⟩
/-- What is asked of a heap beside its calls. -/
structure HSc (p : Pg) (h : Hp) : Prop where
  prog : progOk p = true
  now1 : -1 ≤ h.now
  now2 : h.now < h.calls.length
  born1 : 1 ≤ h.born
  born2 : h.born ≤ 30
  size : (h.calls.length : Int) ≤ h.born
  code1 : 0 ≤ h.code
  code2 : h.code ≤ 3
  said : saidOk p h.said = true
  ended : h.code = 1 ↔ h.now < 0
  snd : ∀ c ∈ h.calls, -1 ≤ c.sender
theorem gok_of_hok {p : Pg} {h : Hp} (H : HOK p h) : GOK p (GH h) (InH h) := by
  refine ⟨fun i hi => ?_, fun a ha => ?_, ?_⟩
  · have f := H.at hi.1 hi.2
    refine ⟨f.m0, f.m1, f.pc0, f.pc1, f.temps, f.stack, fun b hb => ?_, fun v hv => vok_heap.mpr (f.tv v hv), fun v hv => vok_heap.mpr (f.sv v hv), fun hd => ?_⟩
    · have hb : (if (callAt h.calls i).sender < 0 then none else some (callAt h.calls i).sender) = some b := hb
      split at hb
      · cases hb
      · obtain rfl := Option.some.inj hb
        exact ⟨by omega, f.s1⟩
    · obtain ⟨h1, h2⟩ := f.dead hd
      refine ⟨?_, h2⟩
      show (if (callAt h.calls i).sender < 0 then none else some (callAt h.calls i).sender) = none
      rw [if_pos (by omega)]
  · have ha : (if h.now < 0 then none else some h.now) = some a := ha
    split at ha
    · cases ha
    · obtain rfl := Option.some.inj ha
      exact ⟨by omega, H.now2⟩
  · obtain ⟨l, hw, hcov, hroom⟩ := H.way
    exact ⟨l, (way_heap H.now2 (fun x hx => (H.at hx.1 hx.2).s1)).mp hw, fun a ha hd => hcov a ha.1 ha.2 hd, hroom⟩
theorem hok_of_gok {p : Pg} {h : Hp} (S : HSc p h) (G : GOK p (GH h) (InH h)) : HOK p h := by
  have hs1 : ∀ x, InH h x → (callAt h.calls x).sender < h.calls.length := fun x hx => by
    have := (G.nd x hx).sender (callAt h.calls x).sender
    by_cases hn : (callAt h.calls x).sender < 0
    · have := hx.1; have := hx.2; omega
    · exact (this (by show (if (callAt h.calls x).sender < 0 then none else some (callAt h.calls x).sender) = _; rw [if_neg hn])).2
  refine ⟨S.prog, S.now1, S.now2, S.born1, S.born2, S.size, S.code1, S.code2, S.said, S.ended, fun c hc => ?_, ?_⟩
  · obtain ⟨i, i0, i1, rfl⟩ := mem_callAt hc
    have n := G.nd i ⟨i0, i1⟩
    refine form_iff.mpr ⟨n.m0, n.m1, n.pc0, n.pc1, n.temps, n.stack, S.snd _ hc, hs1 i ⟨i0, i1⟩, fun v hv => vok_heap.mp (n.tv v hv), fun v hv => vok_heap.mp (n.sv v hv), fun hd => ?_⟩
    obtain ⟨k1, k2⟩ := n.dead hd
    refine ⟨?_, k2⟩
    have k1 : (if (callAt h.calls i).sender < 0 then none else some (callAt h.calls i).sender) = none := k1
    split at k1
    · have := S.snd _ hc; omega
    · cases k1
  · obtain ⟨l, hw, hcov, hroom⟩ := G.way
    exact ⟨l, (way_heap S.now2 hs1).mpr hw, fun x x0 x1 hd => hcov x ⟨x0, x1⟩ hd, hroom⟩

/-! ### a heap of what is seen -/
def seenH (g : Gr ν) (ss : List ν) (born : Int) (said : List V) (code : Int) : Hp := ⟨ss.map (seen g ss), (match g.now with | none => -1 | some a => (ss.idxOf a : Int)), born, said, code⟩
def atR (ss : List ν) : ν → Int → Prop := fun a i => 0 ≤ i ∧ ss[i.toNat]? = some a
theorem idx_get {l : List ν} {a : ν} (h : a ∈ l) : l[l.idxOf a]? = some a := by
  induction l with
  | nil => simp at h
  | cons x l ih =>
    rw [List.idxOf_cons]
    by_cases e : x = a
    · subst e; simp
    · have : (x == a) = false := by simpa using e
      rw [this]
      simp only [cond_false]
      rw [List.getElem?_cons_succ]
      exact ih (by rcases List.mem_cons.mp h with h | h; exact absurd h.symm e; exact h)
theorem nodup_get : ∀ {l : List ν}, l.Nodup → ∀ {i j : Nat} {a : ν}, l[i]? = some a → l[j]? = some a → i = j
  | [], _, _, _, _, hi, _ => by simp at hi
  | x :: l, h, 0, 0, a, _, _ => rfl
  | x :: l, h, 0, j + 1, a, hi, hj => by
    obtain rfl : x = a := by simpa using hi
    exact absurd (List.mem_of_getElem? (by simpa using hj)) (List.nodup_cons.mp h).1
  | x :: l, h, i + 1, 0, a, hi, hj => by
    obtain rfl : x = a := by simpa using hj
    exact absurd (List.mem_of_getElem? (by simpa using hi)) (List.nodup_cons.mp h).1
  | x :: l, h, i + 1, j + 1, a, hi, hj => by
    exact congrArg (· + 1) (nodup_get (l := l) (a := a) (List.nodup_cons.mp h).2 (by simpa using hi) (by simpa using hj))
theorem atR_inj {ss : List ν} (h : ss.Nodup) : Inj (atR ss) :=
  ⟨fun {a b c} r r' => by have := nodup_get h r.2 r'.2; have := r.1; have := r'.1; omega, fun {a b c} r r' => by have := r.2; rw [r'.2] at this; exact (Option.some.inj this).symm⟩
theorem atR_idx {ss : List ν} {a : ν} (h : a ∈ ss) : atR ss a (ss.idxOf a : Int) := ⟨by omega, by rw [Int.toNat_natCast]; exact idx_get h⟩
theorem callAt_seen {g : Gr ν} {ss : List ν} {born code : Int} {said : List V} {a : ν} {i : Int} (r : atR ss a i) : callAt (seenH g ss born said code).calls i = seen g ss a := by
  unfold callAt seenH
  simp only
  rw [List.getD_eq_getElem?_getD, List.getElem?_map, r.2]; rfl
/-- All that is told of is in the list. -/
structure Whole (g : Gr ν) (ss : List ν) : Prop where
  nodup : ss.Nodup
  now : ∀ a, g.now = some a → a ∈ ss
  refs : ∀ a ∈ ss, ∀ b ∈ refs g a, b ∈ ss
theorem refs_sender {g : Gr ν} {a b : ν} (h : g.sender a = some b) : b ∈ refs g a := by unfold refs; rw [h]; simp
theorem refs_temp {g : Gr ν} {a : ν} {v : V} (h : v ∈ g.temps a) (h2 : v.1 = 2) : g.rf v.2 ∈ refs g a := by
  unfold refs
  refine List.mem_append.mpr (.inr (List.mem_append.mpr (.inl (List.mem_filterMap.mpr ⟨v, h, ?_⟩))))
  unfold refV; rw [if_pos h2]
theorem refs_stack {g : Gr ν} {a : ν} {v : V} (h : v ∈ g.stack a) (h2 : v.1 = 2) : g.rf v.2 ∈ refs g a := by
  unfold refs
  refine List.mem_append.mpr (.inr (List.mem_append.mpr (.inr (List.mem_filterMap.mpr ⟨v, h, ?_⟩))))
  unfold refV; rw [if_pos h2]
theorem name_rel {g : Gr ν} {ss : List ν} {l : List V} (h : ∀ v ∈ l, v.1 = 2 → g.rf v.2 ∈ ss) : RL (RV (atR ss) g.rf (fun n => n)) l (l.map (nameV g ss)) := by
  refine RL.of (by simp) (fun i a b ha hb => ?_)
  rw [List.getElem?_map, ha] at hb
  obtain rfl := Option.some.inj hb
  have hm := List.mem_of_getElem? ha
  unfold nameV
  by_cases e : a.1 = 2
  · rw [if_pos e]; exact ⟨rfl, fun _ => atR_idx (h a hm e), fun e' => absurd e e'⟩
  · rw [if_neg e]; exact ⟨rfl, fun e' => absurd e' e, fun _ => rfl⟩
theorem seen_iso {g : Gr ν} {ss : List ν} (W : Whole g ss) (born code : Int) (said : List V) : Iso g (GH (seenH g ss born said code)) (atR ss) := by
  refine iso_of (atR_inj W.nodup) (fun a i r => ?_) ?_
  · have e := callAt_seen (g := g) (born := born) (code := code) (said := said) r
    have ha : a ∈ ss := List.mem_of_getElem? r.2
    refine ⟨?_, ?_, ?_, ?_, ?_, ?_⟩
    · show g.met a = (callAt (seenH g ss born said code).calls i).method; rw [e]; rfl
    · show g.pc a = (callAt (seenH g ss born said code).calls i).pc; rw [e]; rfl
    · show g.dead a = (callAt (seenH g ss born said code).calls i).dead; rw [e]; rfl
    · show RL _ (g.temps a) (callAt (seenH g ss born said code).calls i).temps
      rw [e]
      exact name_rel (fun v hv h2 => W.refs a ha _ (refs_temp hv h2))
    · show RL _ (g.stack a) (callAt (seenH g ss born said code).calls i).stack
      rw [e]
      exact name_rel (fun v hv h2 => W.refs a ha _ (refs_stack hv h2))
    · show RO _ (g.sender a) (if (callAt (seenH g ss born said code).calls i).sender < 0 then none else some (callAt (seenH g ss born said code).calls i).sender)
      rw [e]
      unfold seen
      cases hs : g.sender a with
      | none => simp [RO]
      | some b =>
        simp only
        rw [if_neg (by omega)]
        exact atR_idx (W.refs a ha b (refs_sender hs))
  · show RO _ g.now (if (seenH g ss born said code).now < 0 then none else some (seenH g ss born said code).now)
    unfold seenH
    cases hn : g.now with
    | none => simp [RO]
    | some a =>
      simp only
      rw [if_neg (by omega)]
      exact atR_idx (W.now a hn)
theorem seen_len {g : Gr ν} {ss : List ν} {born code : Int} {said : List V} : (seenH g ss born said code).calls.length = ss.length := by unfold seenH; simp
theorem seen_in {g : Gr ν} {ss : List ν} {born code : Int} {said : List V} {i : Int} : InH (seenH g ss born said code) i ↔ ∃ a, atR ss a i := by
  unfold InH
  rw [seen_len]
  constructor
  · intro ⟨h0, h1⟩
    exact ⟨ss[i.toNat]'(by omega), h0, List.getElem?_eq_getElem (by omega)⟩
  · rintro ⟨a, h0, h1⟩
    have := (List.getElem?_eq_some_iff.mp h1).1
    exact ⟨h0, by omega⟩
theorem seen_ok {p : Pg} {g : Gr ν} {D : ν → Prop} {ss : List ν} {born code : Int} {said : List V} (G : GOK p g D) (W : Whole g ss) (hD : ∀ a ∈ ss, D a) (hp : progOk p = true) (b1 : 1 ≤ born) (b2 : born ≤ 30) (hsz : (ss.length : Int) ≤ born)
    (c1 : 0 ≤ code) (c2 : code ≤ 3) (hs : saidOk p said = true) (he : code = 1 ↔ g.now = none) : HOK p (seenH g ss born said code) := by
  have now : (seenH g ss born said code).now = match g.now with | none => -1 | some a => (ss.idxOf a : Int) := rfl
  have hlt : ∀ a, g.now = some a → ss.idxOf a < ss.length := fun a ha => by
    have := idx_get (W.now a ha)
    exact (List.getElem?_eq_some_iff.mp this).1
  refine hok_of_gok ⟨hp, ?_, ?_, b1, b2, by rw [seen_len]; exact hsz, c1, c2, hs, ?_, fun c hc => ?_⟩ (G.iso (seen_iso W born code said) (fun i hi => ?_) (fun a i r ha => seen_in.mpr ⟨a, r⟩))
  · rw [now]; split <;> omega
  · rw [now, seen_len]
    split
    · omega
    · rename_i a ha; have := hlt a ha; omega
  · rw [now]
    show code = 1 ↔ _
    rw [he]
    cases g.now with
    | none => simp
    | some a => simp
  · have hc : c ∈ ss.map (seen g ss) := hc
    obtain ⟨a, _, rfl⟩ := List.mem_map.mp hc
    unfold seen
    simp only
    split <;> omega
  · obtain ⟨a, r⟩ := seen_in.mp hi
    exact ⟨a, r, hD a (List.mem_of_getElem? r.2)⟩
theorem found_whole {g : Gr ν} {D : List ν} (F : Fin' g D) : Whole g (found g D.length) := by
  obtain ⟨h1, h2, h3⟩ := found_len F D.length
  refine ⟨h1, fun a ha => ?_, found_closed h3⟩
  exact List.mem_of_getElem? (found_head ha)
end Go.PT

/- A heap without what cannot be come to does the same. -/
set_option linter.unusedVariables false
set_option linter.unusedSimpArgs false
namespace Go.PT
section
variable {p : Pg} {h : Hp}
def viewN (h : Hp) : List Cl := view (GH h) h.calls.length
def trimH (h : Hp) : Hp := ⟨viewN h, min h.now 0, h.born, h.said, h.code⟩
def allI (n : Nat) : List Int := (List.range n).map (fun k : Nat => (k : Int))
theorem mem_allI {n : Nat} {i : Int} : i ∈ allI n ↔ 0 ≤ i ∧ i < n := by
  unfold allI
  rw [List.mem_map]
  constructor
  · rintro ⟨k, h, rfl⟩
    have := List.mem_range.mp h
    omega
  · rintro ⟨h0, h1⟩
    exact ⟨i.toNat, List.mem_range.mpr (by omega), by omega⟩
theorem fin_heap (H : HOK p h) : Fin' (GH h) (allI h.calls.length) := by
  refine ⟨fun a ha => ?_, fun a ha b hb => ?_⟩
  · have := (gok_of_hok H).now a ha
    exact mem_allI.mpr this
  · have ha := mem_allI.mp ha
    have n := (gok_of_hok H).nd a ha
    unfold refs at hb
    rcases List.mem_append.mp hb with hb | hb
    · rw [Option.mem_toList] at hb
      exact mem_allI.mpr (n.sender b hb)
    · have key : ∀ l : List V, (∀ v ∈ l, VOk (GH h).rf (InH h) v) → b ∈ l.filterMap (refV (GH h)) → b ∈ allI h.calls.length := fun l hl hb => by
        obtain ⟨v, hv, e⟩ := List.mem_filterMap.mp hb
        unfold refV at e
        split at e
        · rename_i h2
          have e := Option.some.inj e
          rcases hl v hv with h | h | h
          · omega
          · omega
          · rw [← e]; exact mem_allI.mpr h.2
        · cases e
      rcases List.mem_append.mp hb with hb | hb
      · exact key _ n.tv hb
      · exact key _ n.sv hb
theorem allI_len (n : Nat) : (allI n).length = n := by unfold allI; simp
theorem whole_heap (H : HOK p h) : Whole (GH h) (found (GH h) h.calls.length) := by
  have := found_whole (fin_heap H)
  rwa [allI_len] at this
theorem trim_seen (H : HOK p h) : trimH h = seenH (GH h) (found (GH h) h.calls.length) h.born h.said h.code := by
  unfold trimH seenH viewN view
  congr 1
  have h1 := H.now1
  by_cases hn : h.now < 0
  · have e : (GH h).now = none := if_pos hn
    rw [e]
    show min h.now 0 = -1
    omega
  · have e : (GH h).now = some h.now := if_neg hn
    rw [e]
    show min h.now 0 = (((found (GH h) h.calls.length).idxOf h.now : Nat) : Int)
    have hh := found_head (n := h.calls.length) e
    have : (found (GH h) h.calls.length).idxOf h.now = 0 := by
      cases hl : found (GH h) h.calls.length with
      | nil => rw [hl] at hh; cases hh
      | cons x l =>
        rw [hl] at hh
        obtain rfl : x = h.now := by simpa using hh
        simp
    rw [this]; omega
theorem trim_ok (H : HOK p h) : HOK p (trimH h) := by
  rw [trim_seen H]
  have F := fin_heap H
  have hl := (found_len F h.calls.length).2
  refine seen_ok (gok_of_hok H) (whole_heap H) (fun a ha => mem_allI.mp (hl.1 a ha)) H.prog H.born1 H.born2 ?_ H.code1 H.code2 H.said ?_
  · have := hl.2
    rw [allI_len] at this
    have := H.size
    omega
  · rw [H.ended]
    show _ ↔ (if h.now < 0 then none else some h.now) = none
    constructor
    · intro e; rw [if_pos e]
    · intro e
      split at e
      · assumption
      · cases e
theorem trim_sim (H : HOK p h) : SimH h (trimH h) (atR (found (GH h) h.calls.length)) := by
  rw [trim_seen H]
  refine ⟨seen_iso (whole_heap H) _ _ _, fun a b r => ⟨?_, seen_in.mpr ⟨a, r⟩⟩, rfl, rfl, rfl⟩
  have := (found_len (fin_heap H) h.calls.length).2.1 a (List.mem_of_getElem? r.2)
  exact mem_allI.mp this
/-- Seen as the same, however long one looks. -/
theorem view_long (H : HOK p h) {n : Nat} (hn : h.calls.length ≤ n) : view (GH h) n = viewN h := by
  have hl := (found_len (fin_heap H) h.calls.length).2.2
  rw [allI_len] at hl
  unfold viewN view
  rw [found_more hl n hn]
theorem sim_view {h h' : Hp} {R : Int → Int → Prop} (S : SimH h h' R) (H : HOK p h) (H' : HOK p h') : viewN h = viewN h' := by
  have e := view_rel S.iso (max h.calls.length h'.calls.length)
  rw [view_long H (by omega), view_long H' (by omega)] at e
  exact e
theorem trim_run (H : HOK p h) (n : Nat) : viewN (runH p n (trimH h)) = viewN (runH p n h) ∧ (runH p n (trimH h)).said = (runH p n h).said ∧ (runH p n (trimH h)).code = (runH p n h).code ∧ (runH p n (trimH h)).born = (runH p n h).born := by
  obtain ⟨R, S⟩ := SimH.run n h (trimH h) _ H (trim_ok H) (trim_sim H)
  exact ⟨(sim_view S (run_ok n h H) (run_ok n _ (trim_ok H))).symm, S.said.symm, S.code.symm, S.born.symm⟩
end
end Go.PT

/- What is seen from the call that runs: the closure that numbers what is met, and a row in which calls are named by their numbers. -/
set_option linter.unusedVariables false
set_option linter.unusedSimpArgs false
set_option linter.unusedSectionVars false
set_option maxRecDepth 100000
namespace Go.PT
section
variable {ν : Type} [DecidableEq ν] {g : Gr ν} {os t l m : List ν} {a : ν} {v : V}
theorem idxOf_app (h : a ∈ os) : (os ++ t).idxOf a = os.idxOf a := by rw [List.idxOf_append, if_pos h]
theorem nameV_app (h : v.1 = 2 → g.rf v.2 ∈ os) : nameV g (os ++ t) v = nameV g os v := by
  unfold nameV
  by_cases e : v.1 = 2
  · rw [if_pos e, if_pos e, idxOf_app (h e)]
  · rw [if_neg e, if_neg e]
theorem refV_of (h : v.1 = 2) : refV g v = some (g.rf v.2) := by unfold refV; rw [if_pos h]
theorem refV_not (h : v.1 ≠ 2) : refV g v = none := by unfold refV; rw [if_neg h]
theorem names_app {vs : List V} (h : ∀ b ∈ vs.filterMap (refV g), b ∈ os) : vs.map (nameV g (os ++ t)) = vs.map (nameV g os) :=
  List.map_congr_left (fun v hv => nameV_app (fun e => h _ (List.mem_filterMap.mpr ⟨v, hv, refV_of e⟩)))
theorem seen_app (h : ∀ b ∈ refs g a, b ∈ os) : seen g (os ++ t) a = seen g os a := by
  unfold refs at h
  have h1 : ∀ b ∈ (g.sender a).toList, b ∈ os := fun b hb => h b (List.mem_append.mpr (.inl hb))
  have h2 : ∀ b ∈ (g.temps a).filterMap (refV g), b ∈ os := fun b hb => h b (List.mem_append.mpr (.inr (List.mem_append.mpr (.inl hb))))
  have h3 : ∀ b ∈ (g.stack a).filterMap (refV g), b ∈ os := fun b hb => h b (List.mem_append.mpr (.inr (List.mem_append.mpr (.inr hb))))
  unfold seen
  rw [names_app h2, names_app h3]
  cases hs : g.sender a with
  | none => rfl
  | some b =>
    rw [hs] at h1
    simp only [idxOf_app (h1 b (by simp))]
theorem addAll_app : addAll os (l ++ m) = addAll (addAll os l) m := by unfold addAll; rw [List.foldl_append]
theorem addAll_one : addAll os [a] = add1 os a := rfl
end
/-- A change of what numbers the calls, and of the row q. -/
structure Chg (q : List Nat) (L : Lab) (w : World) (L' : Lab) (w' : World) : Prop where
  fr : Fr (fun b => L b = some [7] ∨ L b = some [8] ∨ L b = some [9] ∨ L b = some q) w w'
  lx : Lx [7] w L L'
  lim : Lim L' w'
section
variable {α : Type} {q r : List Nat} {L L' L'' M : Lab} {w w' w'' : World}
theorem Chg.refl (h : Lim L w) : Chg q L w L w := ⟨Fr.refl _ _, fun b => .inl rfl, h⟩
theorem Chg.ext (c : Chg q L w L' w') (e : Ext w' w'') : Chg q L w L' w'' := ⟨c.fr.ext e, c.lx, c.lim.fr e⟩
theorem Chg.trans (c : Chg q L w L' w') (d : Chg q L' w' L'' w'') : Chg q L w L'' w'' := by
  refine ⟨c.fr.trans' d.fr (fun _ _ h => h) (fun x hx h => by rw [c.lx.old hx] at h; exact h), fun b => ?_, d.lim⟩
  rcases d.lx b with h | ⟨h1, h2⟩
  · rcases c.lx b with k | ⟨k1, k2⟩
    · exact .inl (h.trans k)
    · exact .inr ⟨k1, h.trans k2⟩
  · exact .inr ⟨Nat.le_trans c.fr.size h1, h2⟩
theorem Chg.mu (c : Chg q L w L' w') : Mut L w L' w' :=
  ⟨c.fr.to (fun b _ h e => by rw [e] at h; simp at h), fun b hb hn => by rw [c.lx.old hb]; exact hn, c.lim⟩
theorem Chg.row {kd : Kd α} {xs : List α} {v : Value} (c : Chg q L w L' w') (hl : Lim L w) (h : Sl kd (Own L) w r xs v) (hr : ∀ s, r ++ s ≠ [7] ∧ r ++ s ≠ [8] ∧ r ++ s ≠ [9] ∧ r ++ s ≠ q) : Sl kd (Own L') w' r xs v :=
  h.own c.fr (fun x s hb => ⟨fun e => by
    rw [hb] at e
    obtain ⟨h1, h2, h3, h4⟩ := hr s
    rcases e with e | e | e | e
    · exact h1 (Option.some.inj e)
    · exact h2 (Option.some.inj e)
    · exact h3 (Option.some.inj e)
    · exact h4 (Option.some.inj e), c.lx.lab hl hb⟩)
theorem Chg.weak (c : Chg [7] L w L' w') : Chg q L w L' w' :=
  ⟨c.fr.to (fun b _ h => by
    rcases h with h | h | h | h
    · exact .inl h
    · exact .inr (.inl h)
    · exact .inr (.inr (.inl h))
    · exact .inl h), c.lx, c.lim⟩
theorem Chg.at {x : Nat} (e : Fr (fun y => y = x) w w') (hx : L x = some q) (hl : Lim L w) : Chg q L w L w' :=
  ⟨e.to (fun b _ h => by rw [h]; exact .inr (.inr (.inr hx))), fun b => .inl rfl, hl.fr e⟩
end
/-- What numbers the calls: the map's place, the map, the row of what was met. -/
structure VS (L : Lab) (w : World) (bp bo bm : Nat) (os : List Int) (vo : Value) : Prop where
  place : Blk w bp [.map (some bm)]
  lp : L bp = some [6]
  map : MapB w bm os
  lm : L bm = some [8]
  ord : Blk w bo [vo]
  lo : L bo = some [9]
  row : Sl kInt (Own L) w [7] os vo
  lim : Lim L w
section
variable {q : List Nat} {L L' M : Lab} {w w' : World} {bp bo bm x : Nat} {os : List Int} {vo : Value}
theorem VS.ext (V : VS L w bp bo bm os vo) (e : Ext w w') : VS L w' bp bo bm os vo :=
  ⟨V.place.ext e, V.lp, V.map.keep e (fun h => h), V.lm, V.ord.ext e, V.lo, V.row.keepX e, V.lim.fr e⟩
theorem VS.loc (V : VS L w bp bo bm os vo) (e : Loc L w w' x) : VS L w' bp bo bm os vo :=
  ⟨V.place.fr e.fr (fun h => by have h9 := V.lp; rw [h, e.un] at h9; cases h9), V.lp, V.map.keep e.fr (fun h => by have h9 := V.lm; rw [h, e.un] at h9; cases h9), V.lm,
    V.ord.fr e.fr (fun h => by have h9 := V.lo; rw [h, e.un] at h9; cases h9), V.lo, V.row.loc e, V.lim.fr e.fr⟩
theorem VS.other (V : VS L w bp bo bm os vo) (e : Fr (fun y => y = x) w w') (hx : L x = some q) (h6 : q ≠ [6]) (h7 : ∀ s, [7] ++ s ≠ q) (h8 : q ≠ [8]) (h9 : q ≠ [9]) : VS L w' bp bo bm os vo :=
  ⟨V.place.other V.lp e hx (fun h => h6 h.symm), V.lp, V.map.keep e (fun h => by have h9 := V.lm; rw [h, hx] at h9; exact h8 (Option.some.inj h9)), V.lm,
    V.ord.other V.lo e hx (fun h => h9 h.symm), V.lo, V.row.other e hx h7, V.lim.fr e⟩
theorem VS.join (V : VS L w bp bo bm os vo) (hm : Lim M w) : VS (joinL L q M) w bp bo bm os vo :=
  ⟨V.place, joinL_left V.lp, V.map, joinL_left V.lm, V.ord, joinL_left V.lo, V.row.inL, joinL_lim V.lim hm⟩
end
attribute [local irreducible] ldT ldsT stT stsT allocT boxT bldT bslT nilT fadT ixaT fldT extT lenT pickT binT notT cviT opT opU condT clT clvT ivT loopT arT ndT World.cell? World.frozen? World.alloc World.drew World.setCell Blk Cells Sl
theorem c_see {L : Lab} {w : World} {h : Hp} {n : Int} {bh bp bo bm : Nat} {os : List Int} {vo uc us : Value} {R : VW} (V : VS L w bp bo bm os vo) (kh : Blk w bh (heapCells h uc us)) (hc : Sl kCall Any w [] h.calls uc) (hl : h.calls.length ≤ 1073741824) (n0 : 0 ≤ n) (n1 : n < h.calls.length) (hol : os.length ≤ 1000000)
    (hR : ∀ w' L' vo', Chg [7] L w L' w' → VS L' w' bp bo bm (add1 os n) vo' → R (.int .i64 ((add1 os n).idxOf n : Nat)) w') :
    clT PR 148 [.int .i64 n, .pointer (some ⟨bh, 0, none⟩), .pointer (some ⟨bp, 0, none⟩), .pointer (some ⟨bo, 0, none⟩)] w R := by
  refine Fimpl_HeapView_1.cl ?_
  unfold Fimpl_HeapView_1
  (refine fad_of ?_)
  refine ld_of (kh.cell rfl) ?_
  refine hc.len_of ?_
  (refine sub_of (by (omega)) (by (omega)) ?_)
  refine c_implIn ?_
  rw [inB_t n0 (by omega)]
  (refine not_of ?_)
  refine condN_of (fun h => by cases h) (fun _ => ?_)
  refine ld_of (V.place.cell rfl) ?_
  refine look_of (by kernel_rfl) V.map ?_
  refine ext_of rfl ?_
  refine ext_of rfl ?_
  (refine not_of ?_)
  refine condN_of (fun hn => ?_) (fun hn => ?_)
  · have hn : n ∉ os := of_decide_eq_false hn
    have ha : add1 os n = os ++ [n] := by unfold add1; rw [if_neg hn]
    refine ld_of (V.ord.cell rfl) ?_
    refine V.row.len_of ?_
    refine ld_of (V.place.cell rfl) ?_
    refine upd_of (by kernel_rfl) V.map hn (fun w3 e3 m3 => ?_)
    have row3 := V.row.other e3 V.lm (by simp)
    have ord3 := V.ord.other V.lo e3 V.lm (by simp)
    have place3 := V.place.other V.lp e3 V.lm (by simp)
    have lim3 := V.lim.fr e3
    refine ld_of (ord3.cell rfl) ?_
    refine bsl_of' rfl rfl rfl (fun b4 w4 e4 hb4 k4 => ?_)
    have m4 := m3.keep e4 (fun h => h)
    refine grow_lit [n] (by kernel_rfl) (row3.keepX e4) (show Blk w4 b4 [.int .i64 n] from k4) rfl (by simp; omega) (lim3.fr e4) (fun v5 w5 L5 g _ h5 => ?_)
    have lim4 := lim3.fr e4
    have lp5 := g.lx.lab lim4 V.lp
    have lm5 := g.lx.lab lim4 V.lm
    have lo5 := g.lx.lab lim4 V.lo
    have ord5 : Blk w5 bo [vo] := (ord3.ext e4).fr g.fr (fun e => by rw [V.lo] at e; simp at e)
    have place5 : Blk w5 bp [.map (some bm)] := (place3.ext e4).fr g.fr (fun e => by rw [V.lp] at e; simp at e)
    have m5 : MapB w5 bm (os ++ [n]) := m4.keep g.fr (fun e => by rw [V.lm] at e; simp at e)
    refine st_of' ord5 (by simp) h5.one (fun w6 e6 k6 => ?_)
    have hi : (add1 os n).idxOf n = os.length := by rw [ha, List.idxOf_append, if_neg hn]; simp
    rw [← hi]
    refine hR w6 L5 v5 ⟨?_, fun b => ?_, g.lim.fr e6⟩ ⟨place5.other lp5 e6 lo5 (by simp), lp5, ?_, lm5, k6, lo5, ?_, g.lim.fr e6⟩
    · refine (e3.to (fun b _ h => ?_)).trans ((Ext.fr e4).trans ((g.fr.to (fun b _ h => .inl h)).trans (e6.to (fun b _ h => ?_))))
      · rw [h]; exact .inr (.inl V.lm)
      · rw [h]; exact .inr (.inr (.inl V.lo))
    · rcases g.lx b with h | ⟨h, k⟩
      · exact .inl h
      · have := e3.size; have := e4.size
        exact .inr ⟨by omega, k⟩
    · rw [ha]
      exact m5.keep e6 (fun h => by rw [h, lo5] at lm5; simp at lm5)
    · rw [ha]
      exact h5.other e6 lo5 (by simp)
  · have hn : n ∈ os := of_decide_eq_true hn
    have ha : add1 os n = os := by unfold add1; rw [if_pos hn]
    rw [if_pos hn]
    have := hR w L vo (Chg.refl V.lim) (by rw [ha]; exact V)
    rwa [ha] at this
end Go.PT

/- What is seen from the call that runs: the program's loops. -/
set_option linter.unusedVariables false
set_option linter.unusedSimpArgs false
set_option linter.unusedSectionVars false
set_option maxRecDepth 100000
namespace Go.PT
theorem addAll_len {ν : Type} [DecidableEq ν] : ∀ {l out : List ν}, (addAll out l).length ≤ out.length + l.length
  | [], out => by simp [addAll]
  | a :: l, out => by
    have h1 : addAll out (a :: l) = addAll (add1 out a) l := rfl
    have h2 := addAll_len (l := l) (out := add1 out a)
    have h3 : (add1 out a).length ≤ out.length + 1 := by unfold add1; split <;> simp
    rw [h1, List.length_cons]; omega
def relab (L : Lab) (n : Nat) : Lab := fun b => match L b with
  | some (5 :: s) => some (0 :: n :: s)
  | x => x
section
variable {α : Type} {L : Lab} {w : World} {n : Nat}
theorem relab5 {b : Nat} {s : List Nat} (h : L b = some (5 :: s)) : relab L n b = some (0 :: n :: s) := by unfold relab; rw [h]; rfl
theorem relab_ne {b : Nat} {r : List Nat} (h : L b = some r) (hr : ∀ s, r ≠ 5 :: s) : relab L n b = some r := by
  unfold relab
  split
  · rename_i s e; rw [h] at e; exact absurd (Option.some.inj e) (hr s)
  · exact h
theorem relab_none {b : Nat} (h : L b = none) : relab L n b = none := by unfold relab; rw [h]
theorem relab_lim (h : Lim L w) : Lim (relab L n) w := fun b p hb => by
  cases e : L b with
  | none => rw [relab_none e] at hb; cases hb
  | some q => exact h b q e
theorem Mut.relab (h : Lim L w) : Mut L w (relab L n) w := ⟨Fr.refl _ _, fun b _ e => relab_none e, relab_lim h⟩
theorem Sl.relab5 {kd : Kd α} {q : List Nat} {xs : List α} {v : Value} (h : Sl kd (Own L) w (5 :: q) xs v) : Sl kd (Own (relab L n)) w (0 :: n :: q) xs v :=
  h.own (Fr.refl No w) (fun b r hb => ⟨fun e => e, Go.PT.relab5 hb⟩)
theorem Sl.relabN {kd : Kd α} {i : Nat} {q : List Nat} {xs : List α} {v : Value} (h : Sl kd (Own L) w (i :: q) xs v) (hi : i ≠ 5) : Sl kd (Own (relab L n)) w (i :: q) xs v :=
  h.own (Fr.refl No w) (fun b r hb => ⟨fun e => e, relab_ne hb (fun s e => hi (by injection e))⟩)
theorem VS.relab {bp bo bm : Nat} {os : List Int} {vo : Value} (V : VS L w bp bo bm os vo) : VS (relab L n) w bp bo bm os vo :=
  ⟨V.place, relab_ne V.lp (by simp), V.map, relab_ne V.lm (by simp), V.ord, relab_ne V.lo (by simp), V.row.relabN (by decide), relab_lim V.lim⟩
theorem VS.grow {L' : Lab} {w' : World} {bp bo bm : Nat} {os : List Int} {vo : Value} (V : VS L w bp bo bm os vo) (g : Grw [0] L w L' w') : VS L' w' bp bo bm os vo :=
  ⟨V.place.fr g.fr (fun e => by rw [V.lp] at e; simp at e), g.lx.lab V.lim V.lp, V.map.keep g.fr (fun e => by rw [V.lm] at e; simp at e), g.lx.lab V.lim V.lm, V.ord.fr g.fr (fun e => by rw [V.lo] at e; simp at e), g.lx.lab V.lim V.lo, V.row.grow g V.lim (by simp), g.lim⟩
end
attribute [local irreducible] ldT ldsT stT stsT allocT boxT bldT bslT nilT fadT ixaT fldT extT lenT pickT binT notT cviT opT opU condT clT clvT ivT loopT arT ndT World.cell? World.frozen? World.alloc World.drew World.setCell Blk Cells Sl
theorem view_list {L : Lab} {w0 w : World} {l : List (Nat × List Value)} {h : Hp} {bh bp bo bm : Nat} {os : List Int} {vo uc us vx x2 x6 x7 x8 x54 x55 x56 : Value} {q : List Nat} {xs : List V} {Kb Kr : LW}
    (E : En noL w0 L w l) (hm : (bh, heapCells h uc us) ∈ l) (hc : Sl kCall Any w0 [] h.calls uc)
    (hq : q = [5, 2] ∨ q = [5, 3]) (hl : h.calls.length ≤ 1073741824) (Q : VS L w bp bo bm os vo) (hx : Sl kPair (Own L) w q xs vx) (hxl : xs.length ≤ 1000) (hin : ∀ v ∈ xs, v.1 = 2 → 0 ≤ v.2 ∧ v.2 < h.calls.length) (hol : os.length + xs.length ≤ 1000000)
    (hK : ∀ w' L' vo', En noL w0 L' w' l → Chg q L w L' w' → VS L' w' bp bo bm (addAll os (xs.filterMap (refV (GH h)))) vo' → Sl kPair (Own L') w' q (xs.map (nameV (GH h) (addAll os (xs.filterMap (refV (GH h)))))) vx → Kb [.pointer (some ⟨bh, 0, none⟩), x2, .pointer (some ⟨bo, 0, none⟩), (.func (.func 148) #[] #[.pointer (some ⟨bh, 0, none⟩), .pointer (some ⟨bp, 0, none⟩), .pointer (some ⟨bo, 0, none⟩)]), x6, x7, x8, vx, x54, x55, x56, vx, .int .i64 xs.length, .int .i64 xs.length] w') :
    loopT (fun s w Kn Kb Kr => Fimpl_HeapView.l3 (s.headD undef) (s.tail.headD undef) (s.tail.tail.headD undef) (s.tail.tail.tail.headD undef) (s.tail.tail.tail.tail.headD undef) (s.tail.tail.tail.tail.tail.headD undef) (s.tail.tail.tail.tail.tail.tail.headD undef) (s.tail.tail.tail.tail.tail.tail.tail.headD undef) (s.tail.tail.tail.tail.tail.tail.tail.tail.headD undef) (s.tail.tail.tail.tail.tail.tail.tail.tail.tail.headD undef) (s.tail.tail.tail.tail.tail.tail.tail.tail.tail.tail.headD undef) (s.tail.tail.tail.tail.tail.tail.tail.tail.tail.tail.tail.headD undef) (s.tail.tail.tail.tail.tail.tail.tail.tail.tail.tail.tail.tail.headD undef) (s.tail.tail.tail.tail.tail.tail.tail.tail.tail.tail.tail.tail.tail.headD undef) w Kn Kb Kr) [.pointer (some ⟨bh, 0, none⟩), x2, .pointer (some ⟨bo, 0, none⟩), (.func (.func 148) #[] #[.pointer (some ⟨bh, 0, none⟩), .pointer (some ⟨bp, 0, none⟩), .pointer (some ⟨bo, 0, none⟩)]), x6, x7, x8, vx, x54, x55, x56, vx, .int .i64 xs.length, .int .i64 (0 : Nat)] w Kb Kr := by
  have hrow : ∀ s, q ++ s ≠ [7] ∧ q ++ s ≠ [8] ∧ q ++ s ≠ [9] := by rcases hq with rfl | rfl <;> simp
  have hrow7 : ∀ s, q ++ s ≠ [7] := fun s => (hrow s).1
  have h6 : q ≠ [6] ∧ q ≠ [8] ∧ q ≠ [9] ∧ ∀ s, [7] ++ s ≠ q := by rcases hq with rfl | rfl <;> simp
  refine loop_of (fun m s wx => ∃ (ys zs : List V) (L' : Lab) (vo' : Value), s = [.pointer (some ⟨bh, 0, none⟩), x2, .pointer (some ⟨bo, 0, none⟩), (.func (.func 148) #[] #[.pointer (some ⟨bh, 0, none⟩), .pointer (some ⟨bp, 0, none⟩), .pointer (some ⟨bo, 0, none⟩)]), x6, x7, x8, vx, x54, x55, x56, vx, .int .i64 xs.length, .int .i64 ys.length] ∧ xs = ys ++ zs ∧ En noL w0 L' wx l ∧ Chg q L w L' wx ∧ VS L' wx bp bo bm (addAll os (ys.filterMap (refV (GH h)))) vo' ∧ Sl kPair (Own L') wx q (ys.map (nameV (GH h) (addAll os (ys.filterMap (refV (GH h))))) ++ zs) vx ∧ m = zs.length) ?_ (m := xs.length)
    ⟨[], xs, L, vo, rfl, rfl, E, Chg.refl Q.lim, by simpa [addAll] using Q, by simpa using hx, rfl⟩
  clear E Q hx
  rintro m s wx Kn ⟨ys, zs, L', vo', rfl, hxs, E, c, Q, hx, hmm⟩ hKn
  intro _
  simp only [List.headD_cons, List.tail_cons]
  have hlen : xs.length = ys.length + zs.length := by rw [hxs, List.length_append]
  (refine lss_of ?_)
  refine condLt_of (fun hi => ?_) (fun hi => ?_)
  · cases zs with
    | nil => exfalso; simp at hlen; omega
    | cons v zs =>
    have hin2 := hin v (by rw [hxs]; simp)
    have hol2 : (addAll os (ys.filterMap (refV (GH h)))).length ≤ 1000000 := by have h1 := addAll_len (l := ys.filterMap (refV (GH h))) (out := os); have h2 := List.length_filterMap_le (refV (GH h)) ys; omega
    have hys : ∀ b ∈ ys.filterMap (refV (GH h)), b ∈ addAll os (ys.filterMap (refV (GH h))) := fun b hb => addAll_sub.mpr (.inr hb)
    have hnext : addAll os ((ys ++ [v]).filterMap (refV (GH h))) = if v.1 = 2 then add1 (addAll os (ys.filterMap (refV (GH h)))) v.2 else addAll os (ys.filterMap (refV (GH h))) := by
      rw [List.filterMap_append, addAll_app]
      by_cases h2 : v.1 = 2
      · rw [if_pos h2, List.filterMap_cons_some (refV_of h2)]; rfl
      · rw [if_neg h2, List.filterMap_cons_none (refV_not h2)]; rfl
    generalize addAll os (ys.filterMap (refV (GH h))) = os1 at Q hx hys hnext hol2
    have hlr : (ys.map (nameV (GH h) os1) ++ v :: zs).length = xs.length := by rw [hlen]; simp
    have hat : (ys.map (nameV (GH h) os1) ++ v :: zs)[ys.length]? = some v := by rw [List.getElem?_append_right (by simp)]; simp
    refine pair_ix (hx.any (q := [])) (by omega) (by omega) (fun b o hcell => ?_)
    have hpv : pairAt (ys.map (nameV (GH h) os1) ++ v :: zs) ys.length = v := by
      unfold pairAt
      rw [Int.toNat_natCast, List.getD_eq_getElem?_getD, hat]; rfl
    rw [hpv] at hcell
    refine lds_of hcell rfl ?_
    refine E.als (vs := [.int .i64 v.1, .int .i64 v.2]) rfl rfl rfl (by simp [Value.oneCell']) (fun bt w1 E e1 => ?_)
    replace Q := Q.ext e1
    replace hx := hx.keepX e1
    replace c := c.ext e1
    (refine fad_of ?_)
    refine E.ld (.head _) rfl ?_
    (refine eql_of ?_)
    refine condP_of (fun h2 => ?_) (fun h2 => ?_)
    · rw [if_pos h2] at hnext
      obtain ⟨n0, n1⟩ := hin2 h2
      (refine fad_of ?_)
      refine E.ld (.head _) rfl ?_
      refine clv_of (by kernel_rfl) rfl ?_
      refine c_see Q (E.blk (.tail _ hm)) (hc.ext E.toExt) hl n0 n1 hol2 (fun w2 L2 vo2 c2 Q2 => ?_)
      have hx2 := c2.row Q.lim hx (fun s => ⟨(hrow s).1, (hrow s).2.1, (hrow s).2.2, (hrow s).1⟩)
      replace E := (E.call c2.mu).pop
      replace c := c.trans c2.weak
      rw [← hnext] at Q2
      generalize hix : ((add1 os1 v.2).idxOf v.2 : Int) = ix
      refine hx2.ixo_of rfl (by omega) (by omega) (fun x b o es mm hxx ha ho hK2 hc4 => ?_)
      rw [Int.toNat_natCast] at ha
      (refine fad_of ?_)
      obtain ⟨hl4, w3, p1, p2, p3, p4⟩ := hx2.puts (vs := [.int .i64 ix]) (off := 1) ha (by omega) (by simp [kPair, Kd.flat]) (by simp [Value.oneCell'])
      refine st_of_stN p1 ?_
      have hT := p4 (v.1, ix) (fun es k1 k2 => by
        have e9 : (ys.map (nameV (GH h) os1) ++ v :: zs)[ys.length]'(by omega) = v := by
          have := List.getElem?_eq_getElem (l := ys.map (nameV (GH h) os1) ++ v :: zs) (i := ys.length) (by omega)
          rw [hat] at this
          exact (Option.some.inj this).symm
        have : es = [.int .i64 ((ys.map (nameV (GH h) os1) ++ v :: zs)[ys.length]'(by omega)).1, .int .i64 ((ys.map (nameV (GH h) os1) ++ v :: zs)[ys.length]'(by omega)).2] := k1
        rw [e9] at this
        subst this
        rfl)
      have ho' : ∃ t, add1 os1 v.2 = os1 ++ t := add1_pre
      obtain ⟨t, ht⟩ := ho'
      have hrow2 : (ys.map (nameV (GH h) os1) ++ v :: zs).set ys.length (v.1, ix) = (ys ++ [v]).map (nameV (GH h) (addAll os ((ys ++ [v]).filterMap (refV (GH h))))) ++ zs := by
        have e1 : (ys.map (nameV (GH h) os1) ++ v :: zs).set ys.length (v.1, ix) = ys.map (nameV (GH h) os1) ++ (v.1, ix) :: zs := by
          rw [List.set_append_right _ _ (by simp)]
          simp
        have e2 : nameV (GH h) (add1 os1 v.2) v = (v.1, ix) := by unfold nameV; rw [if_pos h2, ← hix]; rfl
        rw [e1, hnext, List.map_append, List.map_cons, List.map_nil, e2, ht, names_app hys, List.append_assoc]; rfl
      rw [hrow2] at hT
      (refine add_of (by (omega)) (by (omega)) ?_)
      refine hKn zs.length _ _ (by rw [hmm]; simp) ⟨ys ++ [v], zs, L2, vo2, ?_, by rw [hxs, List.append_assoc]; rfl, E.call (Mut.at p2 hl4 Q2.lim), c.trans (Chg.at p2 hl4 Q2.lim), Q2.other p2 hl4 h6.1 h6.2.2.2 h6.2.1 h6.2.2.1, hT, rfl⟩
      simp
    · rw [if_neg h2] at hnext
      (refine add_of (by (omega)) (by (omega)) ?_)
      refine hKn zs.length _ _ (by rw [hmm]; simp) ⟨ys ++ [v], zs, L', vo', ?_, by rw [hxs, List.append_assoc]; rfl, E.pop, c, by rw [hnext]; exact Q, ?_, rfl⟩
      · simp
      · have e2 : nameV (GH h) os1 v = v := by unfold nameV; rw [if_neg h2]
        rw [hnext, List.map_append, List.map_cons, List.map_nil, e2, List.append_assoc]
        exact hx
  · have hz : zs = [] := by
      cases zs with
      | nil => rfl
      | cons z zs => exfalso; rw [List.length_cons] at hlen; omega
    subst hz
    rw [List.append_nil] at hxs hx
    subst hxs
    exact hK wx L' vo' E c Q hx
theorem view_call {L : Lab} {w0 w : World} {l : List (Nat × List Value)} {h : Hp} {bh bp bo bm b17 : Nat} {os : List Int} {vo uc us ut ust x2 x6 : Value} {c : Cl} {outs : List Cl} {i : Nat} {Kn Kb Kr : LW}
    (E : En noL w0 L w ((b17, cellsC c ut ust) :: l)) (hm : (bh, heapCells h uc us) ∈ l) (hc : Sl kCall Any w0 [] h.calls uc) (hl : h.calls.length ≤ 1073741824) (Q : VS L w bp bo bm os vo)
    (ht : Sl kPair (Own L) w [5, 2] c.temps ut) (hs : Sl kPair (Own L) w [5, 3] c.stack ust) (htl : c.temps.length ≤ 1000) (hsl : c.stack.length ≤ 1000) (hint : ∀ v ∈ c.temps, v.1 = 2 → 0 ≤ v.2 ∧ v.2 < h.calls.length) (hins : ∀ v ∈ c.stack, v.1 = 2 → 0 ≤ v.2 ∧ v.2 < h.calls.length)
    (hol : os.length ≤ 100000) (hx6 : Sl kCall (Own L) w [0] outs x6) (hou : outs.length ≤ 1000) (hi : i ≤ 100000)
    (hK : ∀ w' L' vo' x6', En noL w0 L' w' l → VS L' w' bp bo bm (addAll (addAll os (c.temps.filterMap (refV (GH h)))) (c.stack.filterMap (refV (GH h)))) vo' → Sl kCall (Own L') w' [0] (outs ++ [{ c with temps := c.temps.map (nameV (GH h) (addAll (addAll os (c.temps.filterMap (refV (GH h)))) (c.stack.filterMap (refV (GH h))))), stack := c.stack.map (nameV (GH h) (addAll (addAll os (c.temps.filterMap (refV (GH h)))) (c.stack.filterMap (refV (GH h))))) }]) x6' → Kn [.pointer (some ⟨bh, 0, none⟩), x2, .pointer (some ⟨bo, 0, none⟩), (.func (.func 148) #[] #[.pointer (some ⟨bh, 0, none⟩), .pointer (some ⟨bp, 0, none⟩), .pointer (some ⟨bo, 0, none⟩)]), x6', .int .i64 (i + 1 : Nat)] w') :
    Fimpl_HeapView.j1 (.pointer (some ⟨bh, 0, none⟩)) x2 (.pointer (some ⟨bo, 0, none⟩)) (.func (.func 148) #[] #[.pointer (some ⟨bh, 0, none⟩), .pointer (some ⟨bp, 0, none⟩), .pointer (some ⟨bo, 0, none⟩)]) x6 (.int .i64 i) (.pointer (some ⟨b17, 0, none⟩)) w Kn Kb Kr := by
  have hol2 : (addAll os (c.temps.filterMap (refV (GH h)))).length ≤ 200000 := by have h1 := addAll_len (l := c.temps.filterMap (refV (GH h))) (out := os); have h2 := List.length_filterMap_le (refV (GH h)) c.temps; omega
  have hsub : ∀ b ∈ c.temps.filterMap (refV (GH h)), b ∈ addAll os (c.temps.filterMap (refV (GH h))) := fun b hb => addAll_sub.mpr (.inr hb)
  generalize hos2 : addAll os (c.temps.filterMap (refV (GH h))) = os2 at hK hol2 hsub
  have hos3 : ∃ t, addAll os2 (c.stack.filterMap (refV (GH h))) = os2 ++ t := addAll_pre
  generalize hos4 : addAll os2 (c.stack.filterMap (refV (GH h))) = os3 at hK hos3
  intro _
  (refine fad_of ?_)
  refine E.ld (.head _) rfl ?_
  (refine fad_of ?_)
  refine E.ld (.head _) rfl ?_
  obtain ⟨A1, n1, rfl⟩ := ht.is
  obtain ⟨A2, n2, rfl⟩ := hs.is
  refine bsl_of' rfl rfl rfl (fun b54 w1 e1 hb54 k54 => ?_)
  replace E := E.add e1 hb54 (show Blk w1 b54 [.slice A1 c.temps.length n1, .slice A2 c.stack.length n2] from k54)
  replace Q := Q.ext e1
  replace ht := ht.keepX e1
  replace hs := hs.keepX e1
  replace hx6 := hx6.keepX e1
  refine lenS_of ?_
  refine loop_of (fun m s wx => ∃ (k : Nat) (L' : Lab) (vo' : Value), s = [.pointer (some ⟨bh, 0, none⟩), x2, .pointer (some ⟨bo, 0, none⟩), (.func (.func 148) #[] #[.pointer (some ⟨bh, 0, none⟩), .pointer (some ⟨bp, 0, none⟩), .pointer (some ⟨bo, 0, none⟩)]), x6, .int .i64 i, .pointer (some ⟨b17, 0, none⟩), .slice (some ⟨b54, 0, none⟩) 2 2, .int .i64 (2 : Nat), .int .i64 k] ∧ En noL w0 L' wx ((b54, [.slice A1 c.temps.length n1, .slice A2 c.stack.length n2]) :: (b17, cellsC c (.slice A1 c.temps.length n1) (.slice A2 c.stack.length n2)) :: l) ∧ Sl kCall (Own L') wx [0] outs x6 ∧
      ((k = 0 ∧ m = 2 ∧ VS L' wx bp bo bm os vo' ∧ Sl kPair (Own L') wx [5, 2] c.temps (.slice A1 c.temps.length n1) ∧ Sl kPair (Own L') wx [5, 3] c.stack (.slice A2 c.stack.length n2)) ∨
       (k = 1 ∧ m = 1 ∧ VS L' wx bp bo bm os2 vo' ∧ Sl kPair (Own L') wx [5, 2] (c.temps.map (nameV (GH h) os2)) (.slice A1 c.temps.length n1) ∧ Sl kPair (Own L') wx [5, 3] c.stack (.slice A2 c.stack.length n2)) ∨
       (k = 2 ∧ m = 0 ∧ VS L' wx bp bo bm os3 vo' ∧ Sl kPair (Own L') wx [5, 2] (c.temps.map (nameV (GH h) os2)) (.slice A1 c.temps.length n1) ∧ Sl kPair (Own L') wx [5, 3] (c.stack.map (nameV (GH h) os3)) (.slice A2 c.stack.length n2)))) ?_ (m := 2)
    ⟨0, L, vo, rfl, E, hx6, .inl ⟨rfl, rfl, Q, ht, hs⟩⟩
  clear E Q ht hs hx6
  rintro m s wx Kn' ⟨k, L', vo', rfl, E, hx6, hcase⟩ hKn
  intro _
  simp only [List.headD_cons, List.tail_cons]
  (refine lss_of ?_)
  rcases hcase with ⟨rfl, rfl, Q, ht, hs⟩ | ⟨rfl, rfl, Q, ht, hs⟩ | ⟨rfl, rfl, Q, ht, hs⟩
  · refine condLt_of (fun _ => ?_) (fun h => absurd h (by decide))
    refine ixaS_of (by decide) (by decide) ?_
    refine E.ld (.head _) rfl ?_
    refine lenS_of ?_
    refine view_list E (.tail _ (.tail _ hm)) hc (.inl rfl) hl Q ht htl hint (by omega) (fun w' L2 vo2 E2 c2 Q2 hx2 => ?_)
    rw [hos2] at Q2 hx2
    intro _
    simp only [List.headD_cons, List.tail_cons]
    (refine add_of (by (omega)) (by (omega)) ?_)
    exact hKn 1 _ _ (by omega) ⟨1, L2, vo2, rfl, E2, c2.row Q.lim hx6 (by simp), .inr (.inl ⟨rfl, rfl, Q2, hx2, c2.row Q.lim hs (by simp)⟩)⟩
  · refine condLt_of (fun _ => ?_) (fun h => absurd h (by decide))
    refine ixaS_of (by decide) (by decide) ?_
    refine E.ld (.head _) rfl ?_
    refine lenS_of ?_
    refine view_list E (.tail _ (.tail _ hm)) hc (.inr rfl) hl Q hs hsl hins (by omega) (fun w' L2 vo2 E2 c2 Q2 hx2 => ?_)
    rw [hos4] at Q2 hx2
    intro _
    simp only [List.headD_cons, List.tail_cons]
    (refine add_of (by (omega)) (by (omega)) ?_)
    exact hKn 0 _ _ (by omega) ⟨2, L2, vo2, rfl, E2, c2.row Q.lim hx6 (by simp), .inr (.inr ⟨rfl, rfl, Q2, c2.row Q.lim ht (by simp), hx2⟩)⟩
  · refine condLt_of (fun h => absurd h (by decide)) (fun _ => ?_)
    intro _
    obtain ⟨t, h3⟩ := hos3
    have hnm : c.temps.map (nameV (GH h) os3) = c.temps.map (nameV (GH h) os2) := by rw [h3]; exact names_app hsub
    replace E := E.call (Mut.relab (n := outs.length) Q.lim)
    have ht := ht.relab5 (n := outs.length)
    have hs := hs.relab5 (n := outs.length)
    have hx6 := hx6.relabN (n := outs.length) (by decide)
    replace Q := Q.relab (n := outs.length)
    generalize relab L' outs.length = L3 at E ht hs hx6 Q
    refine E.lds (.tail _ (.head _)) rfl ?_
    refine bsl_of' rfl rfl rfl (fun bc wc ec hbc kc => ?_)
    replace E := E.ext ec
    replace Q := Q.ext ec
    refine grow_one (kd := kCall) (q := [0]) { c with temps := c.temps.map (nameV (GH h) os2), stack := c.stack.map (nameV (GH h) os3) } (by kernel_rfl) (hx6.keepX ec) (show Blk wc bc (cellsC c (.slice A1 c.temps.length n1) (.slice A2 c.stack.length n2)) from kc) ⟨_, _, rfl, ht.keepX ec, hs.keepX ec⟩ rfl (by omega) E.mu.lim (fun v' w' L4 g d e => ?_)
    (refine add_of (by (omega)) (by (omega)) ?_)
    exact hK w' L4 vo' v' (E.grow g).pop.pop (Q.grow g) (by rw [hnm]; exact e)
end Go.PT

/- Drawn heaps, and how many operations. -/
set_option linter.unusedVariables false
set_option linter.unusedSimpArgs false
set_option maxRecDepth 100000
namespace Go.PT
attribute [local irreducible] ldT ldsT stT stsT allocT boxT bldT bslT nilT fadT ixaT fldT extT lenT pickT binT notT cviT opT opU condT clT clvT ivT loopT arT ndT World.cell? World.frozen? World.alloc World.drew World.setCell Blk Cells Sl
theorem c_drawRun {w : World} {code : List Int} {v : Value} {R : VW} (h : Bt w code v) (hb : ∀ x ∈ code, 0 ≤ x ∧ x ≤ 255)
    (hR : ∀ u uc us w' p h (n : Int), DW w w' p h u uc us → R (.tuple #[.agg #[u], .agg (heapCells h uc us).toArray, .int .i64 n]) w') : clT PR 77 [v] w R := by
  refine Fspec_DrawHeapRun.cl ?_
  unfold Fspec_DrawHeapRun
  have E := En.start w
  refine E.al (fun b2 w1 E _ => ?_)
  refine E.al (fun b3 w2 E _ => ?_)
  refine c_l6Open (h.ext E.toExt) hb (fun r w3 code' e3 hr3 hrd hb' => ?_)
  have l2 := (E.ext e3).loc _ (.tail _ (.head _))
  have l3 := (E.ext e3).loc _ (.head _)
  have l2 := l2.1.1.lt
  have l3 := l3.1.1.lt
  have lr := hrd.lt
  replace E := E.join [] e3 (lab1_born (p := [9]) hr3) (lab1_lim (p := [9]) lr)
  have hlab : joinL noL [] (lab1 r [9]) r = some [9] := joinL_right (by simp [lab1]) rfl
  generalize joinL noL [] (lab1 r [9]) = L at E hlab
  refine c_heap71 hrd hb' (by omega) (by omega) (fun u uc us w4 pos' p g D => ?_)
  replace E := E.call (Mut.at D.fr hlab E.mu.lim)
  have hm : Sl kMeth (Bet 0 w3.heap.size w4.heap.size) w4 [] p u := D.meth.frame (fun s y m hb => ⟨fun o v hc => hc, .inr ⟨hb.2.1, hb.2.2⟩, hb.2.2⟩)
  have hc : Sl kCall (Bet 0 w3.heap.size w4.heap.size) w4 [] g.calls uc := D.calls.frame (fun s y m hb => ⟨fun o v hc => hc, .inr ⟨hb.2.1, hb.2.2⟩, hb.2.2⟩)
  have hs : Sl kPair (Bet 0 w3.heap.size w4.heap.size) w4 [] g.said us := D.said.frame (fun s y m hb => ⟨fun o v hc => hc, .inr ⟨hb.2.1, hb.2.2⟩, hb.2.2⟩)
  have hrd := D.rd
  have d1 := D.lo
  have d2 := D.hi
  have z3 := D.fr.size
  refine ext_of rfl ?_
  refine ext_of rfl ?_
  refine al_of' (fun b6 w5 e5 h6 k6 => ?_)
  replace E := E.add e5 h6 k6
  replace hm := hm.betExt e5
  replace hc := hc.betExt e5
  replace hs := hs.betExt e5
  replace hrd := hrd.fr e5
  refine al_of' (fun b7 w6 e6 h7 k7 => ?_)
  replace E := E.add e6 h7 k7
  replace hm := hm.betExt e6
  replace hc := hc.betExt e6
  replace hs := hs.betExt e6
  replace hrd := hrd.fr e6
  replace h7 : w4.heap.size ≤ b7 := Nat.le_trans e5.size h7
  clear k6 k7
  refine En.sts' (vs := [u]) [_] rfl E rfl rfl (by intro x hx; simp at hx; subst hx; exact hm.one) (fun w7 E e7 => ?_)
  replace hm := hm.betSet e7.fr (.inr h6) (by omega) z3
  replace hc := hc.betSet e7.fr (.inr h6) (by omega) z3
  replace hs := hs.betSet e7.fr (.inr h6) (by omega) z3
  replace hrd := hrd.keep e7.fr (fun x hx => by omega)
  refine En.sts' (vs := heapCells g uc us) [] rfl E rfl rfl (by intro x hx; simp only [heapCells, List.mem_cons, List.not_mem_nil, or_false] at hx; rcases hx with h | h | h | h | h <;> rw [h] <;> first | rfl | exact hc.one | exact hs.one) (fun w8 E e8 => ?_)
  replace hm := hm.betSet e8.fr (.inr h7) (by omega) z3
  replace hc := hc.betSet e8.fr (.inr h7) (by omega) z3
  replace hs := hs.betSet e8.fr (.inr h7) (by omega) z3
  replace hrd := hrd.keep e8.fr (fun x hx => by omega)
  have ed : Ext w8 w8.drew := (Fr.refl _ _).drew
  replace E := E.ext ed
  replace hm := hm.betExt ed
  replace hc := hc.betExt ed
  replace hs := hs.betExt ed
  replace hrd := hrd.fr ed
  refine E.lds (by (exact .tail _ (.head _))) rfl ?_
  refine E.lds (by (exact .head _)) rfl ?_
  refine ⟨?_, ?_⟩
  · refine bsl_of' rfl rfl rfl (fun bs ws es hbs ks => ?_)
    replace E := E.add es hbs (show Blk ws bs [.int .i64 0, .int .i64 1, .int .i64 5, .int .i64 30, .int .i64 100, .int .i64 400, .int .i64 401, .int .i64 (-1)] from ks)
    replace hm := hm.betExt es
    replace hc := hc.betExt es
    replace hs := hs.betExt es
    replace hrd := hrd.fr es
    refine ⟨E.lds (by (exact .tail _ (.head _))) rfl rfl, ?_⟩
    refine ⟨E.lds (by (exact .tail _ (.tail _ (.head _)))) rfl rfl, ?_⟩
    refine c_pick hrd hb' (by omega) (by omega) (by omega) (fun x wp hx0 hx1 ep _ => ?_)
    replace E := E.call (Mut.at ep hlab E.mu.lim)
    replace hm := hm.betSet ep (.inl ⟨Nat.zero_le _, lr⟩) (by omega) z3
    replace hc := hc.betSet ep (.inl ⟨Nat.zero_le _, lr⟩) (by omega) z3
    replace hs := hs.betSet ep (.inl ⟨Nat.zero_le _, lr⟩) (by omega) z3
    obtain ⟨n, hn⟩ : ∃ n : Int, ([.int .i64 0, .int .i64 1, .int .i64 5, .int .i64 30, .int .i64 100, .int .i64 400, .int .i64 401, .int .i64 (-1)] : List Value)[0 + x.toNat * 1]? = some (.int .i64 n) := by
      rcases (show x = 0 ∨ x = 1 ∨ x = 2 ∨ x = 3 ∨ x = 4 ∨ x = 5 ∨ x = 6 ∨ x = 7 by omega) with rfl | rfl | rfl | rfl | rfl | rfl | rfl | rfl <;> exact ⟨_, rfl⟩
    refine ⟨E.lds (by (exact .tail _ (.head _))) rfl rfl, ?_⟩
    refine ⟨E.lds (by (exact .tail _ (.tail _ (.head _)))) rfl rfl, ?_⟩
    refine ixaS_of hx0 hx1 ?_
    refine E.ld (by (exact .head _)) hn ?_
    refine En.sts' (vs := [u]) [_, _, _, _] rfl E rfl rfl (by intro x hx; simp at hx; subst hx; exact hm.one) (fun wq E eq => ?_)
    replace hm := hm.betSet eq.fr (.inl ⟨Nat.zero_le _, l2⟩) (by omega) z3
    replace hc := hc.betSet eq.fr (.inl ⟨Nat.zero_le _, l2⟩) (by omega) z3
    replace hs := hs.betSet eq.fr (.inl ⟨Nat.zero_le _, l2⟩) (by omega) z3
    refine ⟨E.ld (by (exact .head _)) hn rfl, ?_⟩
    refine ⟨E.lds (by (exact .tail _ (.head _))) rfl rfl, ?_⟩
    refine En.sts' (vs := heapCells g uc us) [_, _, _] rfl E rfl rfl (by intro x hx; simp only [heapCells, List.mem_cons, List.not_mem_nil, or_false] at hx; rcases hx with h | h | h | h | h <;> rw [h] <;> first | rfl | exact hc.one | exact hs.one) (fun wq E eq => ?_)
    replace hm := hm.betSet eq.fr (.inl ⟨Nat.zero_le _, l3⟩) (by omega) z3
    replace hc := hc.betSet eq.fr (.inl ⟨Nat.zero_le _, l3⟩) (by omega) z3
    replace hs := hs.betSet eq.fr (.inl ⟨Nat.zero_le _, l3⟩) (by omega) z3
    refine ⟨E.ld (by (exact .head _)) hn rfl, ?_⟩
    refine E.lds (by (exact .tail _ (.tail _ (.tail _ (.tail _ (.head _)))))) rfl ?_
    refine E.lds (by (exact .tail _ (.tail _ (.tail _ (.head _))))) rfl ?_
    exact hR _ _ _ _ _ _ n ⟨E.toExt, D.prog, hm.betAny, D.small.view hc.betAny hs.betAny, D.small⟩
  · refine c_pick hrd hb' (by omega) (by omega) (by omega) (fun x wp hx0 hx1 ep _ => ?_)
    replace E := E.call (Mut.at ep hlab E.mu.lim)
    replace hm := hm.betSet ep (.inl ⟨Nat.zero_le _, lr⟩) (by omega) z3
    replace hc := hc.betSet ep (.inl ⟨Nat.zero_le _, lr⟩) (by omega) z3
    replace hs := hs.betSet ep (.inl ⟨Nat.zero_le _, lr⟩) (by omega) z3
    obtain ⟨n, hn⟩ : ∃ n : Int, ([.int .i64 0, .int .i64 1, .int .i64 5, .int .i64 30, .int .i64 100, .int .i64 400, .int .i64 401, .int .i64 (-1)] : List Value)[0 + x.toNat * 1]? = some (.int .i64 n) := by
      rcases (show x = 0 ∨ x = 1 ∨ x = 2 ∨ x = 3 ∨ x = 4 ∨ x = 5 ∨ x = 6 ∨ x = 7 by omega) with rfl | rfl | rfl | rfl | rfl | rfl | rfl | rfl <;> exact ⟨_, rfl⟩
    refine ⟨E.lds (by (exact .head _)) rfl rfl, ?_⟩
    refine ⟨E.lds (by (exact .tail _ (.head _))) rfl rfl, ?_⟩
    refine ⟨?_, ?_⟩
    · refine bsl_of' rfl rfl rfl (fun bs ws es hbs ks => ?_)
      replace E := E.add es hbs (show Blk ws bs [.int .i64 0, .int .i64 1, .int .i64 5, .int .i64 30, .int .i64 100, .int .i64 400, .int .i64 401, .int .i64 (-1)] from ks)
      replace hm := hm.betExt es
      replace hc := hc.betExt es
      replace hs := hs.betExt es
      refine ⟨E.lds (by (exact .tail _ (.head _))) rfl rfl, ?_⟩
      refine ⟨E.lds (by (exact .tail _ (.tail _ (.head _)))) rfl rfl, ?_⟩
      refine ixaS_of hx0 hx1 ?_
      refine E.ld (by (exact .head _)) hn ?_
      refine En.sts' (vs := [u]) [_, _, _, _] rfl E rfl rfl (by intro x hx; simp at hx; subst hx; exact hm.one) (fun wq E eq => ?_)
      replace hm := hm.betSet eq.fr (.inl ⟨Nat.zero_le _, l2⟩) (by omega) z3
      replace hc := hc.betSet eq.fr (.inl ⟨Nat.zero_le _, l2⟩) (by omega) z3
      replace hs := hs.betSet eq.fr (.inl ⟨Nat.zero_le _, l2⟩) (by omega) z3
      refine ⟨E.ld (by (exact .head _)) hn rfl, ?_⟩
      refine ⟨E.lds (by (exact .tail _ (.head _))) rfl rfl, ?_⟩
      refine En.sts' (vs := heapCells g uc us) [_, _, _] rfl E rfl rfl (by intro x hx; simp only [heapCells, List.mem_cons, List.not_mem_nil, or_false] at hx; rcases hx with h | h | h | h | h <;> rw [h] <;> first | rfl | exact hc.one | exact hs.one) (fun wq E eq => ?_)
      replace hm := hm.betSet eq.fr (.inl ⟨Nat.zero_le _, l3⟩) (by omega) z3
      replace hc := hc.betSet eq.fr (.inl ⟨Nat.zero_le _, l3⟩) (by omega) z3
      replace hs := hs.betSet eq.fr (.inl ⟨Nat.zero_le _, l3⟩) (by omega) z3
      refine ⟨E.ld (by (exact .head _)) hn rfl, ?_⟩
      refine E.lds (by (exact .tail _ (.tail _ (.tail _ (.tail _ (.head _)))))) rfl ?_
      refine E.lds (by (exact .tail _ (.tail _ (.tail _ (.head _))))) rfl ?_
      exact hR _ _ _ _ _ _ n ⟨E.toExt, D.prog, hm.betAny, D.small.view hc.betAny hs.betAny, D.small⟩
    · refine En.sts' (vs := [u]) [_, _, _] rfl E rfl rfl (by intro x hx; simp at hx; subst hx; exact hm.one) (fun wq E eq => ?_)
      replace hm := hm.betSet eq.fr (.inl ⟨Nat.zero_le _, l2⟩) (by omega) z3
      replace hc := hc.betSet eq.fr (.inl ⟨Nat.zero_le _, l2⟩) (by omega) z3
      replace hs := hs.betSet eq.fr (.inl ⟨Nat.zero_le _, l2⟩) (by omega) z3
      refine ⟨E.lds (by (exact .head _)) rfl rfl, ?_⟩
      refine ⟨?_, ?_⟩
      · refine bsl_of' rfl rfl rfl (fun bs ws es hbs ks => ?_)
        replace E := E.add es hbs (show Blk ws bs [.int .i64 0, .int .i64 1, .int .i64 5, .int .i64 30, .int .i64 100, .int .i64 400, .int .i64 401, .int .i64 (-1)] from ks)
        replace hm := hm.betExt es
        replace hc := hc.betExt es
        replace hs := hs.betExt es
        refine ⟨E.lds (by (exact .tail _ (.head _))) rfl rfl, ?_⟩
        refine ⟨E.lds (by (exact .tail _ (.tail _ (.head _)))) rfl rfl, ?_⟩
        refine ixaS_of hx0 hx1 ?_
        refine E.ld (by (exact .head _)) hn ?_
        refine En.sts' (vs := heapCells g uc us) [_, _, _] rfl E rfl rfl (by intro x hx; simp only [heapCells, List.mem_cons, List.not_mem_nil, or_false] at hx; rcases hx with h | h | h | h | h <;> rw [h] <;> first | rfl | exact hc.one | exact hs.one) (fun wq E eq => ?_)
        replace hm := hm.betSet eq.fr (.inl ⟨Nat.zero_le _, l3⟩) (by omega) z3
        replace hc := hc.betSet eq.fr (.inl ⟨Nat.zero_le _, l3⟩) (by omega) z3
        replace hs := hs.betSet eq.fr (.inl ⟨Nat.zero_le _, l3⟩) (by omega) z3
        refine ⟨E.ld (by (exact .head _)) hn rfl, ?_⟩
        refine E.lds (by (exact .tail _ (.tail _ (.tail _ (.tail _ (.head _)))))) rfl ?_
        refine E.lds (by (exact .tail _ (.tail _ (.tail _ (.head _))))) rfl ?_
        exact hR _ _ _ _ _ _ n ⟨E.toExt, D.prog, hm.betAny, D.small.view hc.betAny hs.betAny, D.small⟩
      · refine En.sts' (vs := heapCells g uc us) [_, _] rfl E rfl rfl (by intro x hx; simp only [heapCells, List.mem_cons, List.not_mem_nil, or_false] at hx; rcases hx with h | h | h | h | h <;> rw [h] <;> first | rfl | exact hc.one | exact hs.one) (fun wq E eq => ?_)
        replace hm := hm.betSet eq.fr (.inl ⟨Nat.zero_le _, l3⟩) (by omega) z3
        replace hc := hc.betSet eq.fr (.inl ⟨Nat.zero_le _, l3⟩) (by omega) z3
        replace hs := hs.betSet eq.fr (.inl ⟨Nat.zero_le _, l3⟩) (by omega) z3
        refine bsl_of' rfl rfl rfl (fun bs ws es hbs ks => ?_)
        replace E := E.add es hbs (show Blk ws bs [.int .i64 0, .int .i64 1, .int .i64 5, .int .i64 30, .int .i64 100, .int .i64 400, .int .i64 401, .int .i64 (-1)] from ks)
        replace hm := hm.betExt es
        replace hc := hc.betExt es
        replace hs := hs.betExt es
        refine ⟨E.lds (by (exact .tail _ (.head _))) rfl rfl, ?_⟩
        refine ⟨E.lds (by (exact .tail _ (.tail _ (.head _)))) rfl rfl, ?_⟩
        refine ixaS_of hx0 hx1 ?_
        refine E.ld (by (exact .head _)) hn ?_
        refine E.lds (by (exact .tail _ (.tail _ (.tail _ (.tail _ (.head _)))))) rfl ?_
        refine E.lds (by (exact .tail _ (.tail _ (.tail _ (.head _))))) rfl ?_
        exact hR _ _ _ _ _ _ n ⟨E.toExt, D.prog, hm.betAny, D.small.view hc.betAny hs.betAny, D.small⟩
end Go.PT

/- What has returned never runs again. -/
set_option linter.unusedVariables false
set_option linter.unusedSimpArgs false
set_option maxRecDepth 100000
namespace Go.PT
theorem runR_small {p : Pg} {g : Hp} {n : Int} (B : HB g) : (runR p g n).1.calls.length ≤ 40 ∧ (∀ c ∈ (runR p g n).1.calls, c.temps.length ≤ 10 ∧ c.stack.length ≤ 10) ∧ (runR p g n).1.said.length ≤ 700 := by
  unfold runR
  split
  · rename_i hk
    rw [Bool.and_eq_true, inB_iff] at hk
    have H := run_ok n.toNat g (hok_iff.mp hk.1)
    have h1 := said_run (p := p) n.toNat g
    have h2 := B.ns
    refine ⟨?_, fun c hc => ?_, ?_⟩
    · have := H.size; have := H.born2; show (runH p n.toNat g).calls.length ≤ 40; omega
    · have f := form_iff.mp (H.forms c hc)
      have h1 := f.temps
      have h2 := f.stack
      have hm := methOk_iff.mp (prog_meth H.prog f.m0 f.m1)
      have := hm.t1
      omega
    · show (runH p n.toNat g).said.length ≤ 700; omega
  · refine ⟨by show 0 ≤ 40; omega, fun c hc => ?_, by show 0 ≤ 700; omega⟩
    cases hc
theorem runR_view {p : Pg} {g : Hp} {n : Int} (B : HB g) {M : Lab} {w : World} {uc us : Value} (hO : HOwn M w (runR p g n).1 uc us) : HeapV w (runR p g n).1 uc us := by
  obtain ⟨h1, h2, h3⟩ := runR_small (p := p) (n := n) B
  exact hO.view (by omega) (fun c hc => by have := h2 c hc; omega) (by omega)
theorem runR_ok {p : Pg} {g : Hp} {n : Int} (h : (runR p g n).2 = true) : HOK p g ∧ 0 ≤ n ∧ n ≤ 400 ∧ (runR p g n).1 = runH p n.toNat g := by
  unfold runR at h ⊢
  split
  · rename_i hk
    rw [Bool.and_eq_true, inB_iff] at hk
    exact ⟨hok_iff.mp hk.1, hk.2.1, hk.2.2, rfl⟩
  · rename_i hk
    rw [if_neg hk] at h
    cases h
attribute [local irreducible] ldT ldsT stT stsT allocT boxT bldT bslT nilT fadT ixaT fldT extT lenT pickT binT notT cviT opT opU condT clT clvT ivT loopT arT ndT World.cell? World.frozen? World.alloc World.drew World.setCell Blk Cells Sl
theorem c_deepEnd {h : Hp} {uc us : Value} {w : World} {R : VW} (h1 : uc.oneCell' = true) (h2 : us.oneCell' = true) (hn : h.now < 0) (hR : ∀ w', Ext w w' → R (.int .i64 0) w') : clT PR 81 [.agg (heapCells h uc us).toArray] w R := by
  refine Fimpl_HeapDeep.cl ?_
  unfold Fimpl_HeapDeep
  have E := En.start w
  refine E.box (fun b1 w1 E _ => ?_)
  (refine fad_of ?_)
  refine E.ld (.head _) rfl ?_
  refine loop_of (fun n s wx => s = [.pointer (some ⟨b1, 0, none⟩), .int .i64 0, .int .i64 0, .int .i64 h.now] ∧ wx = w1) ?_ (m := 0) ⟨rfl, rfl⟩
  rintro n s wx Kn ⟨rfl, rfl⟩ hKn
  intro _
  simp only [List.headD_cons, List.tail_cons]
  (refine geq_of ?_)
  refine condGe_of (fun hge => absurd hge (by omega)) (fun _ => ?_)
  intro _
  exact hR _ E.toExt
theorem c_viewEnd {h : Hp} {uc us : Value} {w : World} {R : VW} (hc : Sl kCall Any w [] h.calls uc) (hl : h.calls.length ≤ 1073741824) (hn : h.now < 0) (hR : ∀ w', Ext w w' → R (.slice none 0 0) w') : clT PR 60 [.agg (heapCells h uc us).toArray] w R := by
  refine Fimpl_HeapView.cl ?_
  unfold Fimpl_HeapView
  have E := En.start w
  refine E.box (fun b1 w1 E _ => ?_)
  (refine fad_of ?_)
  refine E.ld (.head _) rfl ?_
  (refine fad_of ?_)
  refine E.ld (.head _) rfl ?_
  refine (E.any (q := []) hc).len_of ?_
  (refine sub_of (by (omega)) (by (omega)) ?_)
  refine c_implIn ?_
  rw [inB_f (by omega)]
  (refine not_of ?_)
  refine condN_of (fun _ => ?_) (fun h => absurd h (by decide))
  exact hR _ E.toExt
theorem c_heapDead {w : World} {code : List Int} {v : Value} {R : VW} (h : Bt w code v) (hb : ∀ x ∈ code, 0 ≤ x ∧ x ≤ 255) (hR : ∀ w', Ext w w' → R (.bool true) w') : clT PR 27 [v] w R := by
  refine Flaws_FnHeapDead.cl ?_
  unfold Flaws_FnHeapDead
  refine h.len_of ?_
  (refine gtr_of ?_)
  refine condGt_of (fun _ => hR _ (Fr.refl _ _)) (fun hbig => ?_)
  refine c_drawRun h hb (fun up uc us w1 p g n D => ?_)
  have hm0 := D.meth.anyOld (q := [])
  have hc0 := D.view.calls.anyOld (q := [])
  have hs0 := D.view.said.anyOld (q := [])
  have hBn := D.small.ns
  have hpl := prog_len D.prog
  have hml : ∀ m ∈ p, m.ops.length ≤ 1073741824 := fun m hm => by
    have hpo := D.prog
    unfold progOk at hpo
    simp only [Bool.and_eq_true, List.all_eq_true] at hpo
    have := (methOk_iff.mp (hpo.2.2 m hm)).ops
    omega
  replace hR : ∀ w', Ext w1 w' → R (.bool true) w' := fun w' e => hR w' (D.ext.trans e)
  refine ext_of rfl ?_
  refine ext_of rfl ?_
  refine ext_of rfl ?_
  have E := En.start w1
  refine E.al (fun b5 w2 E _ => ?_)
  refine E.al (fun b6 w3 E _ => ?_)
  refine En.sts' (vs := [up]) [_] rfl E rfl rfl (by intro x hx; simp at hx; subst hx; exact hm0.one) (fun w4 E e4 => ?_)
  refine En.sts' (vs := heapCells g uc us) [] rfl E rfl rfl (by intro x hx; simp only [heapCells, List.mem_cons, List.not_mem_nil, or_false] at hx; rcases hx with h | h | h | h | h <;> rw [h] <;> first | rfl | exact hc0.one | exact hs0.one) (fun w5 E e5 => ?_)
  refine E.lds (by (exact .tail _ (.head _))) rfl ?_
  refine E.lds (by (exact .head _)) rfl ?_
  refine c_specRun (hm0.oldExt E.toExt).oldAny (by omega) hml (D.small.view (hc0.oldExt E.toExt).oldAny (hs0.oldExt E.toExt).oldAny) (by omega) (fun w6 M1 c1 s1 e6 hb1 hl1 hO1 => ?_)
  replace E := E.ext e6
  refine ext_of rfl ?_
  refine ext_of rfl ?_
  have V1 := runR_view D.small hO1
  have h1c := V1.calls.one
  have h1s := V1.said.one
  refine E.als (vs := heapCells (runR p g n).1 c1 s1) rfl rfl rfl (by intro x hx; simp only [heapCells, List.mem_cons, List.not_mem_nil, or_false] at hx; rcases hx with h | h | h | h | h <;> rw [h] <;> first | rfl | assumption) (fun b7 w7 E e7 => ?_)
  replace V1 := V1.ext e7
  refine E.lds (by (exact .tail _ (.tail _ (.head _)))) rfl ?_
  refine E.lds (by (exact .tail _ (.head _))) rfl ?_
  refine c_implRun (hm0.oldExt E.toExt).oldAny (by omega) hml (D.small.view (hc0.oldExt E.toExt).oldAny (hs0.oldExt E.toExt).oldAny) (by omega) (fun w8 M2 c2 s2 e8 hb2 hl2 hO2 => ?_)
  replace E := E.ext e8
  replace V1 := V1.ext e8
  refine ext_of rfl ?_
  refine ext_of rfl ?_
  have V2 := runR_view D.small hO2
  have h2c := V2.calls.one
  have h2s := V2.said.one
  refine E.als (vs := heapCells (runR p g n).1 c2 s2) rfl rfl rfl (by intro x hx; simp only [heapCells, List.mem_cons, List.not_mem_nil, or_false] at hx; rcases hx with h | h | h | h | h <;> rw [h] <;> first | rfl | assumption) (fun b9 w9 E e9 => ?_)
  replace V1 := V1.ext e9
  replace V2 := V2.ext e9
  refine neqB_of (by kernel_rfl) ?_
  rw [bne_self_eq_false]
  refine condT_false ?_
  refine E.lds (by (exact .head _)) rfl ?_
  refine E.lds (by (exact .tail _ (.head _))) rfl ?_
  refine c_lmHeap V2 V1 (fun w10 e10 => ?_)
  replace E := E.ext e10
  replace V1 := V1.ext e10
  replace V2 := V2.ext e10
  (refine not_of ?_)
  refine condN_of (fun hf => absurd hf (by decide)) (fun _ => ?_)
  (refine not_of ?_)
  refine condN_of (fun hf => ?_) (fun ht => ?_)
  · refine eqlB_of (by kernel_rfl) ?_
    rw [beq_self_eq_true]
    refine condT_true ?_
    refine E.lds (by (exact .head _)) rfl ?_
    refine E.lds (by (exact .tail _ (.head _))) rfl ?_
    exact c_lmHeap V2 V1 (fun w11 e11 => hR _ (E.toExt.trans e11))
  · obtain ⟨H, n0, n1, hx⟩ := runR_ok ht
    have HX := run_ok n.toNat g H
    have hk := keeps_run n.toNat H
    have hlen := (runR_small (p := p) (n := n) D.small).1
    rw [← hx] at HX hk
    have k6 : Blk w10 b6 (heapCells g uc us) := E.blk (by (exact .tail _ (.tail _ (.head _))))
    have k9 : Blk w10 b9 (heapCells (runR p g n).1 c2 s2) := E.blk (by (exact .head _))
    have C0 := (hc0.oldExt E.toExt).oldAny (q := [])
    have CX := V2.calls
    replace hR : ∀ w', Ext w10 w' → R (.bool true) w' := fun w' e => hR w' (E.toExt.trans e)
    generalize (runR p g n).1 = x at HX hk k9 CX hlen
    clear E V1 V2 hx ht
    refine loop_of (fun m s wx => ∃ i : Int, s = [.bool false, .pointer (some ⟨b6, 0, none⟩), .pointer (some ⟨b9, 0, none⟩), .int .i64 i] ∧ Ext w10 wx ∧ 0 ≤ i ∧ i ≤ g.calls.length ∧ m = ((g.calls.length : Int) - i).toNat) ?_ ⟨0, rfl, Fr.refl _ _, by omega, by omega, rfl⟩
    rintro m s wx Kn ⟨i, rfl, e, i0, i1, hm⟩ hKn
    intro _
    simp only [List.headD_cons, List.tail_cons]
    have hgl := D.small.n
    (refine fad_of ?_)
    refine ld_of ((k6.ext e).cell rfl) ?_
    refine (C0.ext e).len_of ?_
    (refine lss_of ?_)
    refine condLt_of (fun hi => ?_) (fun hi => ?_)
    · obtain ⟨q1, q2⟩ := hk.2 i i0 hi
      have hi2 : i < x.calls.length := by have := hk.1; omega
      (refine fad_of ?_)
      refine ld_of ((k6.ext e.drew).cell rfl) ?_
      refine call_ix (C0.ext e.drew) i0 hi (fun b o ut ut' hc hu hu' => ?_)
      (refine fad_of ?_)
      refine ld_of (hc.at 5 rfl) ?_
      refine cond_of (fun hd => ?_) (fun hd => ?_)
      · obtain ⟨q3, q4⟩ := q2 hd
        (refine fad_of ?_)
        refine ld_of ((k9.ext e.drew).cell rfl) ?_
        refine call_ix (CX.ext e.drew) i0 hi2 (fun b o ut ut' hc2 hu hu' => ?_)
        (refine fad_of ?_)
        refine ld_of (hc2.at 5 rfl) ?_
        (refine not_of ?_)
        refine condN_of (fun hf => by rw [q3] at hf; cases hf) (fun _ => ?_)
        (refine fad_of ?_)
        refine ld_of ((k9.ext e.drew).cell rfl) ?_
        refine call_ix (CX.ext e.drew) i0 hi2 (fun b o ut ut' hc2 hu hu' => ?_)
        (refine fad_of ?_)
        refine ld_of (hc2.at 1 rfl) ?_
        (refine fad_of ?_)
        refine ld_of ((k6.ext e.drew).cell rfl) ?_
        refine call_ix (C0.ext e.drew) i0 hi (fun b o ut ut' hc hu hu' => ?_)
        (refine fad_of ?_)
        refine ld_of (hc.at 1 rfl) ?_
        (refine neq_of ?_)
        refine condNe_of (fun hne => absurd q4 hne) (fun _ => ?_)
        (refine fad_of ?_)
        refine ld_of ((k6.ext e.drew).cell rfl) ?_
        refine call_ix (C0.ext e.drew) i0 hi (fun b o ut ut' hc hu hu' => ?_)
        (refine fad_of ?_)
        refine ld_of (hc.at 0 rfl) ?_
        (refine fad_of ?_)
        refine ld_of ((k9.ext e.drew).cell rfl) ?_
        refine call_ix (CX.ext e.drew) i0 hi2 (fun b o ut ut' hc2 hu hu' => ?_)
        (refine fad_of ?_)
        refine ld_of (hc2.at 0 rfl) ?_
        (refine neq_of ?_)
        refine condNe_of (fun hne => absurd q1.symm hne) (fun _ => ?_)
        (refine add_of (by (omega)) (by (omega)) ?_)
        exact hKn (m - 1) _ _ (by omega) ⟨i + 1, rfl, e.drew, by omega, by omega, by omega⟩
      · (refine fad_of ?_)
        refine ld_of ((k6.ext e.drew).cell rfl) ?_
        refine call_ix (C0.ext e.drew) i0 hi (fun b o ut ut' hc hu hu' => ?_)
        (refine fad_of ?_)
        refine ld_of (hc.at 0 rfl) ?_
        (refine fad_of ?_)
        refine ld_of ((k9.ext e.drew).cell rfl) ?_
        refine call_ix (CX.ext e.drew) i0 hi2 (fun b o ut ut' hc2 hu hu' => ?_)
        (refine fad_of ?_)
        refine ld_of (hc2.at 0 rfl) ?_
        (refine neq_of ?_)
        refine condNe_of (fun hne => absurd q1.symm hne) (fun _ => ?_)
        (refine add_of (by (omega)) (by (omega)) ?_)
        exact hKn (m - 1) _ _ (by omega) ⟨i + 1, rfl, e.drew, by omega, by omega, by omega⟩
    · intro _
      (refine fad_of ?_)
      refine ld_of ((k9.ext e).cell rfl) ?_
      (refine neq_of ?_)
      refine condNe_of (fun _ => hR _ e) (fun hcode => ?_)
      have hnow := HX.ended.mp hcode
      refine lds_of (k9.ext e).cells rfl ?_
      refine c_deepEnd h2c h2s hnow (fun wa ea => ?_)
      (refine eql_of ?_)
      refine condP_of (fun _ => ?_) (fun hne => absurd rfl hne)
      refine lds_of ((k9.ext e).ext ea).cells rfl ?_
      refine c_viewEnd ((CX.ext e).ext ea) (by omega) hnow (fun wb eb => ?_)
      (refine lenS_of ?_)
      (refine eql_of ?_)
      exact hR _ ((e.trans ea).trans eb)
end Go.PT

/- The call that runs, and all that is seen from it: the program's HeapView is the view that the plain data have. -/
set_option linter.unusedVariables false
set_option linter.unusedSimpArgs false
set_option linter.unusedSectionVars false
set_option maxRecDepth 100000
namespace Go.PT
theorem take_app {α : Type} {l t : List α} {i : Nat} (h : i ≤ l.length) : (l ++ t).take i = l.take i := by rw [List.take_append]; simp [Nat.sub_eq_zero_of_le h]
theorem take_one {α : Type} {l : List α} {i : Nat} {a : α} (h : l[i]? = some a) : l.take (i + 1) = l.take i ++ [a] := by
  rw [List.take_add_one, h]; rfl
attribute [local irreducible] ldT ldsT stT stsT allocT boxT bldT bslT nilT fadT ixaT fldT extT lenT pickT binT notT cviT opT opU condT clT clvT ivT loopT arT ndT World.cell? World.frozen? World.alloc World.drew World.setCell Blk Cells Sl
theorem c_heapView {p : Pg} {h : Hp} {uc us : Value} {w : World} {R : VW} (H : HOK p h) (hh : HeapV w h uc us) (hR : ∀ w' v, Ext w w' → Sl kCall (Bet 0 w.heap.size w'.heap.size) w' [] (viewN h) v → R v w') : clT PR 60 [.agg (heapCells h uc us).toArray] w R := by
  have hn1 := H.now2
  have hsz := H.size
  have hb2 := H.born2
  have hcl : h.calls.length ≤ 30 := by omega
  by_cases hneg : h.now < 0
  · refine c_viewEnd hh.calls hh.n hneg (fun w' e => hR w' _ e ?_)
    have : viewN h = [] := by unfold viewN view found; rw [show (GH h).now = none from if_pos hneg]; rfl
    rw [this]
    exact Sl.nil _ _ _ _
  have h0 : 0 ≤ h.now := by omega
  have hF := found_len (fin_heap H) h.calls.length
  rw [allI_len] at hF
  have hF2 : found (GH h) h.calls.length = bfs (GH h) h.calls.length 0 [h.now] := by unfold found; rw [show (GH h).now = some h.now from if_neg hneg]
  have hview : viewN h = (found (GH h) h.calls.length).map (seen (GH h) (found (GH h) h.calls.length)) := rfl
  rw [hF2] at hview hF
  rw [hview] at hR
  clear hview hF2
  generalize hFF : bfs (GH h) h.calls.length 0 [h.now] = F at hR hF
  have hc0 := hh.calls
  have hs0 := hh.said
  refine Fimpl_HeapView.cl ?_
  unfold Fimpl_HeapView
  have E := En.start w
  refine E.box (fun bh w1 E _ => ?_)
  (refine fad_of ?_)
  refine E.ld (.head _) rfl ?_
  (refine fad_of ?_)
  refine E.ld (.head _) rfl ?_
  refine (E.any (q := []) hc0).len_of ?_
  (refine sub_of (by (omega)) (by (omega)) ?_)
  refine c_implIn ?_
  rw [inB_t (by omega) (by omega)]
  (refine not_of ?_)
  refine condN_of (fun h => by cases h) (fun _ => ?_)
  have hm : (bh, heapCells h uc us) ∈ [(bh, heapCells h uc us)] := .head _
  refine mkm_of (fun bm w2 e2 hb2 m2 => ?_)
  replace E := E.join [] e2 (lab1_born (p := [8]) hb2) (lab1_lim (p := [8]) m2.lt)
  have lm : joinL noL [] (lab1 bm [8]) bm = some [8] := joinL_right (by simp [lab1]) rfl
  generalize joinL noL [] (lab1 bm [8]) = L2 at E lm
  refine al_of' (fun bp w3 e3 hb3 k3 => ?_)
  have hap := apart_of E.mu.lim (lab1_born (p := [6]) hb3)
  replace E := E.join [] e3 (lab1_born (p := [6]) hb3) (lab1_lim (p := [6]) k3.lt)
  have lp : joinL L2 [] (lab1 bp [6]) bp = some [6] := joinL_right (by simp [lab1]) (hap bp [6] (by simp [lab1]))
  replace lm : joinL L2 [] (lab1 bp [6]) bm = some [8] := joinL_left lm
  replace m2 := m2.keep e3 (fun h => h)
  generalize joinL L2 [] (lab1 bp [6]) = L3 at E lm lp
  refine st_of' k3 (by simp) rfl (fun w4 e4 k4 => ?_)
  replace E := E.call (Mut.at e4 lp E.mu.lim)
  replace m2 := m2.keep e4 (fun h => by rw [h, lp] at lm; simp at lm)
  refine al_of' (fun bo w5 e5 hb5 k5 => ?_)
  have hap5 := apart_of E.mu.lim (lab1_born (p := [9]) hb5)
  replace E := E.join [] e5 (lab1_born (p := [9]) hb5) (lab1_lim (p := [9]) k5.lt)
  have lo : joinL L3 [] (lab1 bo [9]) bo = some [9] := joinL_right (by simp [lab1]) (hap5 bo [9] (by simp [lab1]))
  replace lm : joinL L3 [] (lab1 bo [9]) bm = some [8] := joinL_left lm
  replace lp : joinL L3 [] (lab1 bo [9]) bp = some [6] := joinL_left lp
  generalize joinL L3 [] (lab1 bo [9]) = L5 at E lm lp lo
  have Q : VS L5 w5 bp bo bm [] (.slice none 0 0) := ⟨k4.ext e5, lp, m2.keep e5 (fun h => h), lm, k5, lo, Sl.none0, E.mu.lim⟩
  clear hap hap5 k3 k4 k5 m2
  (refine fad_of ?_)
  refine E.ld (.head _) rfl ?_
  refine clv_of (by kernel_rfl) rfl ?_
  refine c_see Q (E.blk hm) (hc0.ext E.toExt) hh.n h0 hn1 (by simp) (fun w6 L6 vo6 c6 Q6 => ?_)
  replace E := E.call c6.mu
  have hadd : add1 [] h.now = [h.now] := rfl
  rw [hadd] at Q6
  clear Q
  refine loop_of (fun m s wx => ∃ (i : Nat) (L : Lab) (os : List Int) (vo vout : Value), s = [.pointer (some ⟨bh, 0, none⟩), .slice none 0 0, .pointer (some ⟨bo, 0, none⟩), (.func (.func 148) #[] #[.pointer (some ⟨bh, 0, none⟩), .pointer (some ⟨bp, 0, none⟩), .pointer (some ⟨bo, 0, none⟩)]), vout, .int .i64 i] ∧ En noL w L wx [(bh, heapCells h uc us)] ∧ VS L wx bp bo bm os vo ∧ Sl kCall (Own L) wx [0] ((os.take i).map (seen (GH h) os)) vout ∧ i ≤ os.length ∧ (∀ a ∈ os.take i, ∀ b ∈ refs (GH h) a, b ∈ os) ∧ (∀ a ∈ os, a ∈ allI h.calls.length) ∧ bfs (GH h) m i os = F ∧ i + m = h.calls.length) ?_ (m := h.calls.length)
    ⟨0, L6, [h.now], vo6, .slice none 0 0, rfl, E, Q6, Sl.none0, by simp, by simp, fun a ha => by rw [List.mem_singleton] at ha; subst ha; exact mem_allI.mpr ⟨h0, hn1⟩, hFF, by omega⟩
  clear E Q6 c6
  rintro m s wx Kn ⟨i, L, os, vo, vout, rfl, E, Q, hout, hi, hcl2, hos, hb, him⟩ hKn
  intro _
  simp only [List.headD_cons, List.tail_cons]
  obtain ⟨tF, htF⟩ := bfs_pre (GH h) m i os
  have hol : os.length ≤ 30 := by rw [hb] at htF; have := congrArg List.length htF; rw [List.length_append] at this; omega
  refine ld_of (Q.ord.cell rfl) ?_
  refine Q.row.len_of ?_
  (refine lss_of ?_)
  refine condLt_of (fun hlt => ?_) (fun hge => ?_)
  · have hlt' : i < os.length := by omega
    obtain ⟨a, ha⟩ : ∃ a, os[i]? = some a := ⟨os[i], List.getElem?_eq_getElem hlt'⟩
    have hain := hos a (List.mem_of_getElem? ha)
    obtain ⟨a0, a1⟩ := mem_allI.mp hain
    have hia : intAt os i = a := by unfold intAt; rw [Int.toNat_natCast, List.getD_eq_getElem?_getD, ha]; rfl
    obtain ⟨m', rfl⟩ : ∃ m', m = m' + 1 := by
      cases m with
      | zero =>
        exfalso
        have h1 : bfs (GH h) 0 i os = os := rfl
        rw [h1] at hb
        have h3 : os.length ≤ h.calls.length := by rw [hb]; exact hF.2.2
        omega
      | succ m' => exact ⟨m', rfl⟩
    have hb' : bfs (GH h) m' (i + 1) (addAll os (refs (GH h) a)) = F := by
      rw [← hb]
      conv => rhs; unfold bfs
      rw [ha]
    have F3 := H.at a0 a1
    have hmeth := methOk_iff.mp (prog_meth H.prog F3.m0 F3.m1)
    have ht1 := F3.temps
    have ht2 := hmeth.t1
    have ht3 := F3.stack
    have hrefs := (fin_heap H).refs a hain
    have hrt : (GH h).temps a = (callAt h.calls a).temps := rfl
    have hrs : (GH h).stack a = (callAt h.calls a).stack := rfl
    have hcase : ((callAt h.calls a).sender < 0 ∧ (GH h).sender a = none) ∨ (0 ≤ (callAt h.calls a).sender ∧ (GH h).sender a = some (callAt h.calls a).sender) := by
      by_cases e : (callAt h.calls a).sender < 0
      · exact .inl ⟨e, if_pos e⟩
      · exact .inr ⟨by omega, if_neg e⟩
    have hvt : ∀ v ∈ (callAt h.calls a).temps, v.1 = 2 → 0 ≤ v.2 ∧ v.2 < h.calls.length := fun v hv e => by
      refine mem_allI.mp (hrefs v.2 ?_)
      unfold refs
      refine List.mem_append.mpr (.inr (List.mem_append.mpr (.inl (List.mem_filterMap.mpr ⟨v, hv, refV_of e⟩))))
    have hvs : ∀ v ∈ (callAt h.calls a).stack, v.1 = 2 → 0 ≤ v.2 ∧ v.2 < h.calls.length := fun v hv e => by
      refine mem_allI.mp (hrefs v.2 ?_)
      unfold refs
      refine List.mem_append.mpr (.inr (List.mem_append.mpr (.inr (List.mem_filterMap.mpr ⟨v, hv, refV_of e⟩))))
    -- how a round ends
    have fin : ∀ (os1 : List Int) (c' : Cl) (L' : Lab) (wy : World) (vo' vout' : Value), addAll os (refs (GH h) a) = os1 → c' = seen (GH h) os1 a → En noL w L' wy [(bh, heapCells h uc us)] → VS L' wy bp bo bm os1 vo' → Sl kCall (Own L') wy [0] ((os.take i).map (seen (GH h) os) ++ [c']) vout' →
        Kn [.pointer (some ⟨bh, 0, none⟩), .slice none 0 0, .pointer (some ⟨bo, 0, none⟩), (.func (.func 148) #[] #[.pointer (some ⟨bh, 0, none⟩), .pointer (some ⟨bp, 0, none⟩), .pointer (some ⟨bo, 0, none⟩)]), vout', .int .i64 (i + 1 : Nat)] wy := by
      intro os1 c' L' wy vo' vout' ho1 hc' E Q hout
      obtain ⟨t, ht⟩ : ∃ t, addAll os (refs (GH h) a) = os ++ t := addAll_pre
      rw [ho1] at ht hb'
      have hsub : ∀ b ∈ refs (GH h) a, b ∈ os1 := fun b hb => by rw [← ho1]; exact addAll_sub.mpr (.inr hb)
      have htk : os1.take (i + 1) = os.take i ++ [a] := by rw [ht, take_app (by omega), take_one ha]
      refine hKn m' _ _ (by omega) ⟨i + 1, L', os1, vo', vout', rfl, E, Q, ?_, ?_, ?_, ?_, hb', by omega⟩
      · rw [htk, List.map_append, List.map_cons, List.map_nil, ← hc']
        have e9 : (os.take i).map (seen (GH h) os1) = (os.take i).map (seen (GH h) os) := List.map_congr_left (fun x hx => by rw [ht]; exact seen_app (hcl2 x hx))
        rw [e9]
        exact hout
      · rw [ht, List.length_append]; omega
      · intro x hx b hb
        rw [htk] at hx
        rcases List.mem_append.mp hx with hx | hx
        · rw [ht]; exact List.mem_append.mpr (.inl (hcl2 x hx b hb))
        · rw [List.mem_singleton] at hx; subst hx; exact hsub b hb
      · intro x hx
        rw [← ho1] at hx
        rcases addAll_sub.mp hx with hx | hx
        · exact hos x hx
        · exact hrefs x hx
    clear hKn
    replace E := E.drew
    replace Q := Q.ext (Fr.refl _ _).drew
    replace hout := hout.keepX (Fr.refl _ _).drew
    (refine fad_of ?_)
    refine E.ld (.head _) rfl ?_
    refine ld_of (Q.ord.cell rfl) ?_
    refine int_ix (Q.row.any (q := [])) (by omega) (by omega) (fun b o hcell => ?_)
    rw [hia] at hcell
    refine ld_of hcell ?_
    refine call_ix (hc0.ext E.toExt) a0 a1 (fun b2 o2 ut ust hcell2 hut hust => ?_)
    refine lds_of (cs := cellsC (callAt h.calls a) ut ust) hcell2 rfl ?_
    refine E.ar1 (l0 := [(bh, heapCells h uc us)]) (.inl ⟨rfl, rfl⟩) (fun w7 s7 l7 E e7 S => ?_)
    refine c_callCopied (hut.ext e7) (hust.ext e7) (by omega) (by omega) (fun w8 M ut' us' e8 hb8 hl8 ht8 hs8 => ?_)
    replace Q := (Q.ext e7).ext e8
    replace hout := (hout.keepX e7).keepX e8
    have hap := apart_of E.mu.lim hb8
    have ht8 := ht8.inR (q := [5]) hap
    have hs8 := hs8.inR (q := [5]) hap
    replace E := E.join [5] e8 hb8 hl8
    replace Q := Q.join (q := [5]) hl8
    replace hout := hout.inL (q := [5]) (M := M)
    clear hap
    generalize joinL L [5] M = L8 at E Q hout ht8 hs8
    refine E.ar1 S (fun w9 s9 l9 E e9 S => ?_)
    replace Q := Q.ext e9
    replace hout := hout.keepX e9
    replace ht8 := ht8.keepX e9
    replace hs8 := hs8.keepX e9
    refine S.nd (fun b17 h17 l17 => ?_)
    subst h17 l17
    refine En.sts' (vs := cellsC (callAt h.calls a) ut' us') [] rfl E rfl rfl (by intro x hx; simp only [cellsC, List.mem_cons, List.not_mem_nil, or_false] at hx; rcases hx with h | h | h | h | h | h <;> rw [h] <;> first | rfl | exact ht8.one | exact hs8.one) (fun w10 E e10 => ?_)
    replace Q := Q.loc e10
    replace hout := hout.loc e10
    replace ht8 := ht8.loc e10
    replace hs8 := hs8.loc e10
    refine ar_some ?_
    refine nd_some ?_
    have hou : ((os.take i).map (seen (GH h) os)).length ≤ 1000 := by rw [List.length_map, List.length_take]; omega
    (refine fad_of ?_)
    refine E.ld (.head _) rfl ?_
    (refine geq_of ?_)
    rcases hcase with ⟨hs0', hsn⟩ | ⟨hs0', hsn⟩
    · refine condGe_of (fun hge => absurd hge (by omega)) (fun _ => ?_)
      refine view_call (c := callAt h.calls a) E (.head _) hc0 hh.n Q ht8 hs8 (by omega) (by omega) hvt hvs (by omega) hout hou (by omega) (fun w' L' vo' x6' E Q hout => ?_)
      have hr : addAll os (refs (GH h) a) = addAll (addAll os ((callAt h.calls a).temps.filterMap (refV (GH h)))) ((callAt h.calls a).stack.filterMap (refV (GH h))) := by
        unfold refs
        rw [hsn, Option.toList_none, List.nil_append, addAll_app, hrt, hrs]
      refine fin _ _ L' w' vo' x6' hr ?_ E Q hout
      have hm1 : (callAt h.calls a).sender = -1 := by have := F3.s0; omega
      unfold seen
      rw [hsn, hrt, hrs]
      show _ = (⟨(callAt h.calls a).method, (callAt h.calls a).pc, _, _, -1, (callAt h.calls a).dead⟩ : Cl)
      rw [← hm1]
    · refine condGe_of (fun hge => ?_) (fun hlt9 => absurd hlt9 (by omega))
      (refine fad_of ?_)
      refine E.ld (.head _) rfl ?_
      refine clv_of (by kernel_rfl) rfl ?_
      have hs1 := F3.s1
      refine c_see Q (E.blk (.tail _ (.head _))) (hc0.ext E.toExt) hh.n hs0' hs1 (by omega) (fun w11 L11 vo11 c11 Q11 => ?_)
      replace E := E.call c11.mu
      replace hout := c11.row Q.lim hout (by simp)
      replace ht8 := c11.row Q.lim ht8 (by simp)
      replace hs8 := c11.row Q.lim hs8 (by simp)
      (refine fad_of ?_)
      generalize hix : (((add1 os (callAt h.calls a).sender).idxOf (callAt h.calls a).sender : Nat) : Int) = ix
      refine En.st' [] E (by simp [cellsC]) rfl (fun w12 E e12 => ?_)
      replace Q11 := Q11.loc e12
      replace hout := hout.loc e12
      replace ht8 := ht8.loc e12
      replace hs8 := hs8.loc e12
      have hol1 : (add1 os (callAt h.calls a).sender).length ≤ 31 := by have h9 := addAll_len (l := [(callAt h.calls a).sender]) (out := os); rw [addAll_one, List.length_singleton] at h9; omega
      refine view_call (c := { callAt h.calls a with sender := ix }) E (.head _) hc0 hh.n Q11 ht8 hs8 (by show (callAt h.calls a).temps.length ≤ _; omega) (by show (callAt h.calls a).stack.length ≤ _; omega) hvt hvs (by omega) hout hou (by omega) (fun w' L' vo' x6' E Q hout => ?_)
      have hr : addAll os (refs (GH h) a) = addAll (addAll (add1 os (callAt h.calls a).sender) ((callAt h.calls a).temps.filterMap (refV (GH h)))) ((callAt h.calls a).stack.filterMap (refV (GH h))) := by
        unfold refs
        rw [hsn, addAll_app, addAll_app, hrt, hrs]; rfl
      refine fin _ _ L' w' vo' x6' hr ?_ E Q hout
      obtain ⟨t1, h1⟩ : ∃ t, addAll (add1 os (callAt h.calls a).sender) ((callAt h.calls a).temps.filterMap (refV (GH h))) = add1 os (callAt h.calls a).sender ++ t := addAll_pre
      obtain ⟨t2, h2⟩ : ∃ t, addAll (addAll (add1 os (callAt h.calls a).sender) ((callAt h.calls a).temps.filterMap (refV (GH h)))) ((callAt h.calls a).stack.filterMap (refV (GH h))) = addAll (add1 os (callAt h.calls a).sender) ((callAt h.calls a).temps.filterMap (refV (GH h))) ++ t := addAll_pre
      have hix2 : (((addAll (addAll (add1 os (callAt h.calls a).sender) ((callAt h.calls a).temps.filterMap (refV (GH h)))) ((callAt h.calls a).stack.filterMap (refV (GH h)))).idxOf (callAt h.calls a).sender : Nat) : Int) = ix := by
        rw [← hix, h2, h1, List.append_assoc, idxOf_app (add1_sub.mpr (.inr rfl))]
      unfold seen
      rw [hsn, hrt, hrs]
      simp only [hix2]
      rfl
  · intro _
    have he : os = F := by
      rw [← hb]
      cases m with
      | zero => rfl
      | succ m =>
        unfold bfs
        rw [List.getElem?_eq_none (by omega)]
    subst he
    have hit : i = os.length := by omega
    subst hit
    rw [List.take_length] at hout
    exact hR wx vout E.toExt (hout.ownBet E.born)
end Go.PT

/- A heap without what cannot be come to: the program's HeapTrim. -/
set_option linter.unusedVariables false
set_option linter.unusedSimpArgs false
set_option maxRecDepth 100000
namespace Go.PT
theorem min_of {P : Program} {ts : Array TypeId} {t : TypeId} {x y : Int} {w : World} {k : VW} (hk : k (.int .i64 (min x y)) w) : opT P (Builtin.min_ ts t #[.int .i64 x, .int .i64 y]) w k := by
  unfold opT
  rw [run_min_int2]
  have : (if y < x then y else x) = min x y := by split <;> omega
  rw [this]
  exact hk
theorem trim_start {p : Pg} {h : Hp} (H : HOK p h) : min ((viewN h).length : Int) 1 - 1 = min h.now 0 := by
  have h1 := H.now1
  by_cases hn : h.now < 0
  · have : viewN h = [] := by unfold viewN view found; rw [show (GH h).now = none from if_pos hn]; rfl
    rw [this]
    simp; omega
  · have e := found_head (g := GH h) (n := h.calls.length) (a := h.now) (if_neg hn)
    have hl : (viewN h).length = (found (GH h) h.calls.length).length := by unfold viewN view; rw [List.length_map]
    have := (List.getElem?_eq_some_iff.mp e).1
    omega
theorem ok_small {p : Pg} {h : Hp} (H : HOK p h) : h.calls.length ≤ 30 ∧ ∀ c ∈ h.calls, c.temps.length ≤ 10 ∧ c.stack.length ≤ 10 := by
  refine ⟨by have := H.size; have := H.born2; omega, fun c hc => ?_⟩
  have f := form_iff.mp (H.forms c hc)
  have h1 := f.temps
  have h2 := f.stack
  have hm := methOk_iff.mp (prog_meth H.prog f.m0 f.m1)
  have := hm.t1
  omega
attribute [local irreducible] ldT ldsT stT stsT allocT boxT bldT bslT nilT fadT ixaT fldT extT lenT pickT binT notT cviT opT opU condT clT clvT ivT loopT arT ndT World.cell? World.frozen? World.alloc World.drew World.setCell Blk Cells Sl
theorem c_implTrim {p : Pg} {h : Hp} {u uc us : Value} {w : World} {R : VW} (H : HOK p h) (hp : Sl kMeth Any w [] p u) (hh : HeapV w h uc us)
    (hR : ∀ w' v vs, Ext w w' → HeapV w' (trimH h) v vs → R (.tuple #[.agg (heapCells (trimH h) v vs).toArray, .bool true]) w') : clT PR 71 [.agg #[u], .agg (heapCells h uc us).toArray] w R := by
  have hpl := prog_len H.prog
  have hml : ∀ m ∈ p, m.ops.length ≤ 1073741824 := fun m hm => by
    have hpo := H.prog
    unfold progOk at hpo
    simp only [Bool.and_eq_true, List.all_eq_true] at hpo
    have := (methOk_iff.mp (hpo.2.2 m hm)).ops
    omega
  obtain ⟨k1, k2⟩ := ok_small (trim_ok H)
  have k1 : (viewN h).length ≤ 30 := k1
  refine Fimpl_HeapTrim.cl ?_
  unfold Fimpl_HeapTrim
  have E := En.start w
  refine E.box (fun b2 w1 E _ => ?_)
  refine E.box (fun b3 w2 E _ => ?_)
  refine E.al (fun b4 w3 E _ => ?_)
  refine E.lds (by (exact .tail _ (.tail _ (.head _)))) rfl ?_
  refine E.lds (by (exact .tail _ (.head _))) rfl ?_
  refine c_heapOk (hp.ext E.toExt) (by omega) hml (hh.ext E.toExt) (fun w4 e4 => ?_)
  replace E := E.ext e4
  rw [hok_iff.mpr H]
  (refine not_of ?_)
  refine condN_of (fun h => by cases h) (fun _ => ?_)
  refine E.lds (by (exact .tail _ (.head _))) rfl ?_
  have l4 : b4 < w4.heap.size := (E.blk (b := b4) (.head _)).lt
  refine c_heapView H (hh.ext E.toExt) (fun w5 v e5 hv => ?_)
  replace E := (E.ext e5).drew
  have z5 := e5.size
  (refine fad_of ?_)
  refine E.ld (by (exact .tail _ (.head _))) rfl ?_
  (refine fad_of ?_)
  refine E.ld (by (exact .tail _ (.head _))) rfl ?_
  (refine fad_of ?_)
  refine E.ld (by (exact .tail _ (.head _))) rfl ?_
  replace hv := hv.betExt (Fr.refl _ _).drew
  refine Fimpl_start.cl ?_
  unfold Fimpl_start
  refine hv.len_of ?_
  refine min_of ?_
  (refine sub_of (by (omega)) (by (omega)) ?_)
  rw [trim_start H]
  refine ⟨E.ld (by (exact .tail _ (.head _))) rfl rfl, ?_⟩
  refine ⟨E.ld (by (exact .tail _ (.head _))) rfl rfl, ?_⟩
  refine ⟨E.ld (by (exact .tail _ (.head _))) rfl rfl, ?_⟩
  refine c_clone (E.any (q := []) hh.said) hh.ns (fun w6 vs M e6 hb6 hl6 hs6 => ?_)
  replace E := E.ext e6
  replace hv := hv.betExt e6
  have z6 := e6.size
  refine ⟨E.ld (by (exact .tail _ (.head _))) rfl rfl, ?_⟩
  refine ⟨E.ld (by (exact .tail _ (.head _))) rfl rfl, ?_⟩
  obtain ⟨A1, c1, rfl⟩ := hv.is
  obtain ⟨A2, c2, rfl⟩ := hs6.is
  refine bld_of (cs := #[.slice A1 (viewN h).length c1, .int .i64 (min h.now 0), .int .i64 h.born, .slice A2 h.said.length c2, .int .i64 h.code]) rfl ?_
  refine En.sts' (vs := heapCells (trimH h) (.slice A1 (viewN h).length c1) (.slice A2 h.said.length c2)) [] rfl E rfl rfl (fun u hu => List.all_eq_true.mp rfl u hu) (fun w7 E e7 => ?_)
  refine E.lds (.head _) rfl ?_
  have hM : M b4 = none := by
    cases h9 : M b4 with
    | none => rfl
    | some q => have := hb6 b4 q h9; have := (Fr.refl No w5).drew.size; omega
  have hv7 := hv.betSet e7.fr (.inl ⟨Nat.zero_le _, l4⟩) (Nat.zero_le _) z5
  have hs7 := hs6.loc ⟨e7.fr, hM⟩
  exact hR _ _ _ E.toExt ⟨hv7.betAny, hs7.any, by show (viewN h).length ≤ _; omega, fun c hc => by have := k2 c hc; omega, hh.ns⟩
end Go.PT

/- Without what cannot be come to the same is done. -/
set_option linter.unusedVariables false
set_option linter.unusedSimpArgs false
set_option maxRecDepth 100000
namespace Go.PT
attribute [local irreducible] ldT ldsT stT stsT allocT boxT bldT bslT nilT fadT ixaT fldT extT lenT pickT binT notT cviT opT opU condT clT clvT ivT loopT arT ndT World.cell? World.frozen? World.alloc World.drew World.setCell Blk Cells Sl
theorem c_heapTrimRun {w : World} {code : List Int} {v : Value} {R : VW} (h : Bt w code v) (hb : ∀ x ∈ code, 0 ≤ x ∧ x ≤ 255) (hR : ∀ w', Ext w w' → R (.bool true) w') : clT PR 26 [v] w R := by
  refine Flaws_FnHeapTrimRun.cl ?_
  unfold Flaws_FnHeapTrimRun
  refine h.len_of ?_
  (refine gtr_of ?_)
  refine condGt_of (fun _ => hR _ (Fr.refl _ _)) (fun hbig => ?_)
  refine c_drawRun h hb (fun up uc us w1 p g n D => ?_)
  have hm0 := D.meth.anyOld (q := [])
  have hc0 := D.view.calls.anyOld (q := [])
  have hs0 := D.view.said.anyOld (q := [])
  have hBn := D.small.ns
  have hpl := prog_len D.prog
  have hml : ∀ m ∈ p, m.ops.length ≤ 1073741824 := fun m hm => by
    have hpo := D.prog
    unfold progOk at hpo
    simp only [Bool.and_eq_true, List.all_eq_true] at hpo
    have := (methOk_iff.mp (hpo.2.2 m hm)).ops
    omega
  replace hR : ∀ w', Ext w1 w' → R (.bool true) w' := fun w' e => hR w' (D.ext.trans e)
  refine ext_of rfl ?_
  refine ext_of rfl ?_
  refine ext_of rfl ?_
  have E := En.start w1
  refine E.al (fun b5 w2 E _ => ?_)
  refine E.al (fun b6 w3 E _ => ?_)
  refine En.sts' (vs := [up]) [_] rfl E rfl rfl (by intro x hx; simp at hx; subst hx; exact hm0.one) (fun w4 E e4 => ?_)
  refine En.sts' (vs := heapCells g uc us) [] rfl E rfl rfl (by intro x hx; simp only [heapCells, List.mem_cons, List.not_mem_nil, or_false] at hx; rcases hx with h | h | h | h | h <;> rw [h] <;> first | rfl | exact hc0.one | exact hs0.one) (fun w5 E e5 => ?_)
  refine E.lds (by (exact .tail _ (.head _))) rfl ?_
  refine E.lds (by (exact .head _)) rfl ?_
  refine c_specRun (hm0.oldExt E.toExt).oldAny (by omega) hml (D.small.view (hc0.oldExt E.toExt).oldAny (hs0.oldExt E.toExt).oldAny) (by omega) (fun w6 M1 c1 s1 e6 hb1 hl1 hO1 => ?_)
  replace E := E.ext e6
  refine ext_of rfl ?_
  refine ext_of rfl ?_
  have V1 := runR_view D.small hO1
  have h1c := V1.calls.one
  have h1s := V1.said.one
  refine E.als (vs := heapCells (runR p g n).1 c1 s1) rfl rfl rfl (by intro x hx; simp only [heapCells, List.mem_cons, List.not_mem_nil, or_false] at hx; rcases hx with h | h | h | h | h <;> rw [h] <;> first | rfl | assumption) (fun b7 w7 E e7 => ?_)
  replace V1 := V1.ext e7
  refine E.lds (by (exact .tail _ (.tail _ (.head _)))) rfl ?_
  refine E.lds (by (exact .tail _ (.head _))) rfl ?_
  refine c_implRun (hm0.oldExt E.toExt).oldAny (by omega) hml (D.small.view (hc0.oldExt E.toExt).oldAny (hs0.oldExt E.toExt).oldAny) (by omega) (fun w8 M2 c2 s2 e8 hb2 hl2 hO2 => ?_)
  replace E := E.ext e8
  replace V1 := V1.ext e8
  refine ext_of rfl ?_
  refine ext_of rfl ?_
  have V2 := runR_view D.small hO2
  have h2c := V2.calls.one
  have h2s := V2.said.one
  refine E.als (vs := heapCells (runR p g n).1 c2 s2) rfl rfl rfl (by intro x hx; simp only [heapCells, List.mem_cons, List.not_mem_nil, or_false] at hx; rcases hx with h | h | h | h | h <;> rw [h] <;> first | rfl | assumption) (fun b9 w9 E e9 => ?_)
  replace V1 := V1.ext e9
  replace V2 := V2.ext e9
  refine neqB_of (by kernel_rfl) ?_
  rw [bne_self_eq_false]
  refine condT_false ?_
  refine E.lds (by (exact .head _)) rfl ?_
  refine E.lds (by (exact .tail _ (.head _))) rfl ?_
  refine c_lmHeap V2 V1 (fun w10 e10 => ?_)
  replace E := E.ext e10
  replace V1 := V1.ext e10
  replace V2 := V2.ext e10
  (refine not_of ?_)
  refine condN_of (fun hf => absurd hf (by decide)) (fun _ => ?_)
  (refine not_of ?_)
  refine condN_of (fun hf => ?_) (fun ht => ?_)
  · refine eqlB_of (by kernel_rfl) ?_
    rw [beq_self_eq_true]
    refine condT_true ?_
    refine E.lds (by (exact .head _)) rfl ?_
    refine E.lds (by (exact .tail _ (.head _))) rfl ?_
    exact c_lmHeap V2 V1 (fun w11 e11 => hR _ (E.toExt.trans e11))
  · obtain ⟨H, n0, n1, hx⟩ := runR_ok ht
    have HX := run_ok n.toNat g H
    have HT := trim_ok H
    have HY := run_ok n.toNat (trimH g) HT
    obtain ⟨t1, t2, t3, t4⟩ := trim_run H n.toNat
    have hrt : runR p (trimH g) n = (runH p n.toNat (trimH g), true) := by
      unfold runR
      rw [hok_iff.mpr HT, inB_t n0 n1]; rfl
    have BT : HB (trimH g) := ⟨by have := (ok_small HT).1; omega, (ok_small HT).2, D.small.ns⟩
    have hsX := (runR_small (p := p) (n := n) D.small)
    have hsT := (runR_small (p := p) (n := n) BT)
    rw [hrt] at hsT
    rw [hx] at V2 E hsX
    obtain ⟨s1, s2, s3⟩ := hsX
    obtain ⟨q1, q2, q3⟩ := hsT
    have q1 : (runH p n.toNat (trimH g)).calls.length ≤ 40 := q1
    have q3 : (runH p n.toNat (trimH g)).said.length ≤ 700 := q3
    obtain ⟨v1, v2⟩ := ok_small (trim_ok HX)
    refine E.lds (by (exact .tail _ (.tail _ (.tail _ (.head _))))) rfl ?_
    refine E.lds (by (exact .tail _ (.tail _ (.head _)))) rfl ?_
    refine c_implTrim H (hm0.oldExt E.toExt).oldAny (D.small.view (hc0.oldExt E.toExt).oldAny (hs0.oldExt E.toExt).oldAny) (fun w11 ct st e11 VT => ?_)
    replace E := E.ext e11
    replace V2 := V2.ext e11
    refine ext_of rfl ?_
    refine ext_of rfl ?_
    have h3c := VT.calls.one
    have h3s := VT.said.one
    refine E.als (vs := heapCells (trimH g) ct st) rfl rfl rfl (by intro x hx; simp only [heapCells, List.mem_cons, List.not_mem_nil, or_false] at hx; rcases hx with h | h | h | h | h <;> rw [h] <;> first | rfl | assumption) (fun b12 w12 E e12 => ?_)
    replace V2 := V2.ext e12
    replace VT := VT.ext e12
    refine E.lds (by (exact .tail _ (.tail _ (.tail _ (.tail _ (.head _)))))) rfl ?_
    refine E.lds (by (exact .head _)) rfl ?_
    refine c_implRun (hm0.oldExt E.toExt).oldAny (by omega) hml VT (by have := D.small.ns; show g.said.length ≤ _; omega) (fun w13 M3 c3 s3' e13 hb3 hl3 hO3 => ?_)
    have V3 := runR_view BT hO3
    replace E := E.ext e13
    replace V2 := V2.ext e13
    rw [hrt] at V3 ⊢
    have V3 : HeapV w13 (runH p n.toNat (trimH g)) c3 s3' := V3
    refine ext_of rfl ?_
    refine ext_of rfl ?_
    have h4c := V3.calls.one
    have h4s := V3.said.one
    refine E.als (vs := heapCells (runH p n.toNat (trimH g)) c3 s3') rfl rfl rfl (by intro x hx; simp only [heapCells, List.mem_cons, List.not_mem_nil, or_false] at hx; rcases hx with h | h | h | h | h <;> rw [h] <;> first | rfl | assumption) (fun b14 w14 E e14 => ?_)
    replace V2 := V2.ext e14
    replace V3 := V3.ext e14
    refine condT_true ?_
    replace E := E.drew
    replace V2 := V2.ext (Fr.refl _ _).drew
    replace V3 := V3.ext (Fr.refl _ _).drew
    refine E.lds (by (exact .head _)) rfl ?_
    refine E.lds (by (exact .tail _ (.tail _ (.head _)))) rfl ?_
    refine c_heapView HY V3 (fun w15 x15 e15 h15 => ?_)
    replace E := E.ext e15
    replace V2 := V2.ext e15
    replace V3 := V3.ext e15
    have h15 := h15.betAny (q := [])
    refine ⟨E.lds (by (exact .tail _ (.tail _ (.head _)))) rfl rfl, ?_⟩
    refine c_heapView HX V2 (fun w16 x16 e16 h16 => ?_)
    replace E := E.ext e16
    replace V2 := V2.ext e16
    replace V3 := V3.ext e16
    replace h15 := h15.ext e16
    have h16 := h16.betAny (q := [])
    rw [t1] at h15
    refine c_lmCalls h15 h16 (by show (trimH (runH p n.toNat g)).calls.length ≤ _; omega) (fun c hc => by have := v2 c hc; omega) (fun w17 e17 => ?_)
    replace E := E.ext e17
    replace V2 := V2.ext e17
    replace V3 := V3.ext e17
    refine condT_true ?_
    (refine fad_of ?_)
    refine E.ld (by (exact .head _)) rfl ?_
    (refine fad_of ?_)
    refine E.ld (by (exact .tail _ (.tail _ (.head _)))) rfl ?_
    have hsd := V3.said
    rw [t2] at hsd
    refine c_lmVals hsd V2.said V2.ns (fun w18 e18 => ?_)
    replace E := E.ext e18
    refine condT_true ?_
    (refine fad_of ?_)
    refine E.ld (by (exact .head _)) rfl ?_
    (refine fad_of ?_)
    refine E.ld (by (exact .tail _ (.tail _ (.head _)))) rfl ?_
    (refine eql_of ?_)
    refine condP_of (fun _ => ?_) (fun hne => absurd t3 hne)
    (refine fad_of ?_)
    refine E.ld (by (exact .head _)) rfl ?_
    (refine fad_of ?_)
    refine E.ld (by (exact .tail _ (.tail _ (.head _)))) rfl ?_
    (refine eql_of ?_)
    rw [decide_eq_true t4]
    exact hR _ E.toExt
end Go.PT
