/- Drawn heaps. -/
import Derived.Test.YtegddhbcglghdaaGreatGD
import Derived.Test.YtegddhbcglghdaaGreatHTextA
import Derived.Test.YtegddhbcglghdaaGreatGG
import Derived.Test.YtegddhbcglghdaaGreatDTextA
import Derived.Test.YtegddhbcglghdaaGreatGH
import Derived.Laws.Small
import Derived.Test.YtegddhbcglghdaaGreatGC
/- The reader of a code: what opening one and picking a number do; who draws with it. -/
set_option linter.unusedVariables false
set_option linter.unusedSimpArgs false
set_option maxRecDepth 100000
namespace Go.PT
def kByte : Kd Int := Kd.flat 1 (fun n => [.int .u8 n]) (fun _ => rfl) (fun _ v hv => by simp at hv; subst hv; rfl)
theorem Sl.frame' {α : Type} {kd : Kd α} {ok ok' : Ok} {w p q} {xs : List α} {v} (h : Sl kd ok w p xs v) (hf : ∀ r b m, ok w (p ++ r) b m → ok' w (q ++ r) b m) : Sl kd ok' w q xs v := h.frame (fun r b m hb => ⟨fun _ _ h => h, hf r b m hb⟩)
/-- A reader at a place of a code. -/
def Rd (w : World) (r : Nat) (code : List Int) (pos : Int) : Prop :=
  ∃ v, w.cell? ⟨r, 0, none⟩ = some v ∧ w.cell? ⟨r, 1, none⟩ = some (.int .i64 pos) ∧ w.frozen? ⟨r, 1, none⟩ = false ∧ (∃ A c, v = .slice A code.length c) ∧ (code = [] ∨ Sl kByte (Off (fun x => r ≤ x)) w [] code v)
theorem frozen_keep {S : Nat → Prop} {w w' : World} (e : Fr S w w') {b o : Nat} (hb : b < w.heap.size) (hs : ¬ S b) : w'.frozen? ⟨b, o, none⟩ = w.frozen? ⟨b, o, none⟩ := World.frozen?_of_block (e.keep b hb hs)
theorem Rd.lt {w : World} {r : Nat} {code : List Int} {pos : Int} (h : Rd w r code pos) : r < w.heap.size := by obtain ⟨v, h1, _⟩ := h; exact cell_lt h1
theorem Rd.fr {w w' : World} {r : Nat} {code : List Int} {pos : Int} (h : Rd w r code pos) (e : Ext w w') : Rd w' r code pos := by
  obtain ⟨v, h1, h2, h3, h5, h4⟩ := h
  exact ⟨v, Ext.cell e h1, Ext.cell e h2, by rw [frozen_keep e (cell_lt h1) (fun e => e)]; exact h3, h5, h4.imp id (fun h => h.offExt e)⟩
theorem Rd.set {w : World} {r : Nat} {code : List Int} {pos : Int} (h : Rd w r code pos) (pos' : Int) : Rd (w.setCell ⟨r, 1, none⟩ (.int .i64 pos')) r code pos' := by
  obtain ⟨v, h1, h2, h3, h5, h4⟩ := h
  exact ⟨v, cell_far (.inr (by decide)) h1, cell_put h2, by rw [World.frozen?_setCell]; exact h3, h5, h4.imp id (fun h => h.off ((Fr.refl (fun x => r ≤ x) w).set (.inr (Nat.le_refl _)) _))⟩
theorem Rd.keep {S : Nat → Prop} {w w' : World} {r : Nat} {code : List Int} {pos : Int} (h : Rd w r code pos) (e : Fr S w w') (hs : ∀ x, S x → r < x) : Rd w' r code pos := by
  obtain ⟨v, h1, h2, h3, h5, h4⟩ := h
  have hr : ¬ S r := fun e => absurd (hs r e) (Nat.lt_irrefl _)
  exact ⟨v, e.cell hr h1, e.cell hr h2, by rw [frozen_keep e (cell_lt h1) hr]; exact h3, h5, h4.imp id (fun h => h.off (e.to (fun b _ hb => Nat.le_of_lt (hs b hb))))⟩
def Bytes (code : List Int) : Prop := (∀ x ∈ code, 0 ≤ x ∧ x ≤ 255) ∧ code.length ≤ 4000
theorem tmod_range (a n : Int) (ha : 0 ≤ a) (hn : 0 < n) : 0 ≤ Int.tmod a n ∧ Int.tmod a n < n := by
  rw [Int.tmod_eq_emod_of_nonneg ha]
  exact ⟨Int.emod_nonneg _ (by omega), Int.emod_lt_of_pos _ hn⟩
theorem tdiv_range (a n : Int) (ha : 0 ≤ a) (hn : 0 < n) : 0 ≤ Int.tdiv a n ∧ Int.tdiv a n ≤ a := by
  rw [Int.tdiv_eq_ediv_of_nonneg ha]
  exact ⟨Int.ediv_nonneg ha (by omega), Int.ediv_le_self _ ha⟩
theorem xor_nonneg (x y : Int) (hx : 0 ≤ x) (hx' : x < 4611686018427387904) (hy : 0 ≤ y) (hy' : y < 4611686018427387904) : 0 ≤ bits .xor .i64 x y := by
  obtain ⟨a, rfl⟩ := Int.eq_ofNat_of_zero_le hx
  obtain ⟨b, rfl⟩ := Int.eq_ofNat_of_zero_le hy
  have ha : a < 2 ^ 62 := by omega
  have hb : b < 2 ^ 62 := by omega
  have h := Nat.xor_lt_two_pow ha hb
  show 0 ≤ IntKind.i64.wrap ((BitVec.ofInt 64 (a : Int) ^^^ BitVec.ofInt 64 (b : Int)).toNat : Int)
  rw [BitVec.toNat_xor, BitVec.toNat_ofInt, BitVec.toNat_ofInt]
  have e1 : (((a : Int) % ((2 ^ 64 : Nat) : Int)).toNat) = a := by omega
  have e2 : (((b : Int) % ((2 ^ 64 : Nat) : Int)).toNat) = b := by omega
  rw [e1, e2, i64_wrap _ (by omega) (by omega)]
  omega
theorem byte_at {w : World} {ok : Ok} {p : List Nat} {code : List Int} {v : Value} {i : Int} {k : Value → Prop} (hb : Bytes code) (h : Sl kByte ok w p code v) (h0 : 0 ≤ i) (h1 : i < code.length)
    (hk : ∀ b o x, 0 ≤ x → x ≤ 255 → w.cell? ⟨b, o, none⟩ = some (.int .u8 x) → k (.pointer (some ⟨b, o, none⟩))) : ixaT 1 v (.int .i64 i) k := by
  refine h.ix_of rfl h0 h1 (fun x b o es hx hK hc => ?_)
  have hes : es = [.int .u8 x] := hK
  subst hes
  have hx' := hb.1 x (List.mem_of_getElem? hx)
  exact hk b o x hx'.1 hx'.2 (by simpa using hc.at 0 rfl)

theorem c_pick {w : World} {r : Nat} {code : List Int} {pos n : Int} {R : VW} (h : Rd w r code pos) (hb : Bytes code) (hp : 0 ≤ pos) (hp' : pos ≤ 100000) (hn : 1 ≤ n)
    (hR : ∀ v w', 0 ≤ v → v < n → Fr (fun x => x = r) w w' → Rd w' r code (pos + 1) → R (.int .i64 v) w') : clT PR 160 [.pointer (some ⟨r, 0, none⟩), .int .i64 n] w R := by
  refine Fspec_l6Rd_pick.cl ?_
  unfold Fspec_l6Rd_pick
  obtain ⟨v, h1, h2, h3, h5, h4⟩ := h
  have hl := hb.2
  repeat (first | (first | refine fad_of ?_ | refine nil_of ?_) | ((refine add_of (by (omega)) (by (omega)) ?_)) | ((apply ld_of; (case h => iterate 14 (first | done | assumption)))))
  refine st_of rfl h2 h3 ?_
  have hfr : Fr (fun x => x = r) w (w.setCell ⟨r, 0 + 1, none⟩ (.int .i64 (pos + 1))) := (Fr.refl (fun x => x = r) w).set (.inr rfl) _
  have hrd : Rd (w.setCell ⟨r, 0 + 1, none⟩ (.int .i64 (pos + 1))) r code (pos + 1) := Rd.set ⟨v, h1, h2, h3, h5, h4⟩ _
  generalize w.setCell ⟨r, 0 + 1, none⟩ (.int .i64 (pos + 1)) = w1 at hfr hrd
  have hrd' := hrd
  obtain ⟨v, h1, h2, h3, ⟨A, c, hv⟩, h4⟩ := hrd
  have done : ∀ x : Int, 0 ≤ x → R (.int .i64 (x.tmod n)) w1 := fun x hx => hR _ _ (tmod_range x n hx (by omega)).1 (tmod_range x n hx (by omega)).2 hfr hrd'
  have doneD : ∀ x : Int, 0 ≤ x → R (.int .i64 (x.tmod n)) w1.drew := fun x hx => hR _ _ (tmod_range x n hx (by omega)).1 (tmod_range x n hx (by omega)).2 hfr.drew hrd'
  repeat (((refine lss_of ?_)))
  refine condP_of (fun hc => by omega) (fun _ => ?_)
  repeat (first | (first | refine fad_of ?_ | refine nil_of ?_) | ((apply ld_of; (case h => iterate 14 (first | done | assumption)))))
  have hlen : ∀ {k : Value → Prop}, k (.int .i64 code.length) → lenT v k := fun hk => by rw [hv]; exact hk
  refine hlen ?_
  repeat (((refine eql_of ?_)))
  refine condP_of (fun hc => hR _ _ (by omega) (by omega) hfr hrd') (fun hne => ?_)
  have h4 : Sl kByte (Off (fun x => r ≤ x)) w1 [] code v := h4.resolve_left (fun e => hne (by rw [e]; rfl))
  repeat (first | (first | refine fad_of ?_ | refine nil_of ?_ | refine lss_of ?_) | ((refine sub_of (by (omega)) (by (omega)) ?_)) | ((apply ld_of; (case h => iterate 14 (first | done | assumption)))) | (refine Sl.len_of (by assumption) ?_))
  first | refine h4.len_of ?_ | skip
  repeat ((fail))
  rw [show pos + 1 - 1 = pos by omega]
  refine condP_of (fun hc => ?_) (fun hc => ?_)
  · repeat (first | (first | refine fad_of ?_ | refine nil_of ?_) | ((apply ld_of; (case h => iterate 14 (first | done | assumption)))))
    refine byte_at hb h4 (by omega) hc (fun b o x hx0 hx1 hcell => ?_)
    repeat (first | ((refine cvi_of ?_)) | ((apply ld_of; (case h => iterate 14 (first | done | assumption)))))
    rw [i64_wrap _ (by omega) (by omega)]
    refine rem_of (by omega) ?_
    exact done x hx0
  · have hL : (0 : Int) < code.length := by omega
    have q1 := tmod_range pos code.length hp hL
    have q2 := tmod_range (pos * 7 + 3) code.length (by omega) hL
    have q3 := tdiv_range pos code.length hp hL
    repeat (first | (first | refine fad_of ?_ | refine nil_of ?_) | ((apply ld_of; (case h => iterate 14 (first | done | assumption)))) | (refine Sl.len_of (by assumption) ?_))
    first | refine h4.len_of ?_ | skip
    refine rem_of (by omega) ?_
    refine byte_at hb h4 q1.1 q1.2 (fun b o x hx0 hx1 hcell => ?_)
    repeat (first | ((refine cvi_of ?_)) | ((apply ld_of; (case h => iterate 14 (first | done | assumption)))))
    rw [i64_wrap _ (by omega) (by omega)]
    repeat (first | (first | refine fad_of ?_ | refine nil_of ?_) | (first | refine add_of (by (omega)) (by (omega)) ?_ | refine mul_of (by (omega)) (by (omega)) ?_) | ((apply ld_of; (case h => iterate 14 (first | done | assumption)))) | (refine Sl.len_of (by assumption) ?_))
    first | refine h4.len_of ?_ | skip
    refine rem_of (by omega) ?_
    refine byte_at hb h4 q2.1 q2.2 (fun b' o' y hy0 hy1 hcell' => ?_)
    repeat (first | ((refine cvi_of ?_)) | ((apply ld_of; (case h => iterate 14 (first | done | assumption)))))
    rw [i64_wrap _ (by omega) (by omega)]
    repeat (first | (first | refine fad_of ?_ | refine nil_of ?_) | (first | refine add_of (by (omega)) (by (omega)) ?_ | refine mul_of (by (omega)) (by (omega)) ?_) | ((apply ld_of; (case h => iterate 14 (first | done | assumption)))) | (refine Sl.len_of (by assumption) ?_))
    first | refine h4.len_of ?_ | skip
    refine quo_of (by omega) (by omega) (by omega) ?_
    repeat ((first | refine add_of (by (omega)) (by (omega)) ?_ | refine mul_of (by (omega)) (by (omega)) ?_))
    have hs : 0 ≤ x * 131 + y * 1117 + pos * 29 + pos.tdiv code.length * 53 ∧ x * 131 + y * 1117 + pos * 29 + pos.tdiv code.length * 53 < 4611686018427387904 := by omega
    generalize x * 131 + y * 1117 + pos * 29 + pos.tdiv code.length * 53 = s at hs
    have q4 := tdiv_range s 64 hs.1 (by omega)
    refine quo_of (by omega) (by omega) (by omega) ?_
    refine xor_of ?_
    refine rem_of (by omega) ?_
    exact doneD _ (xor_nonneg _ _ hs.1 hs.2 q4.1 (by omega))
/-! ### bytes that come in -/
def Bt (w : World) (code : List Int) (v : Value) : Prop := (∃ A c, v = .slice A code.length c ∧ code.length ≤ c) ∧ (code = [] ∨ Sl kByte (fun w _ b _ => b < w.heap.size) w [] code v)
theorem c_l6Open {w : World} {code : List Int} {v : Value} {R : VW} (h : Bt w code v) (hb : ∀ x ∈ code, 0 ≤ x ∧ x ≤ 255)
    (hR : ∀ r w' code', Ext w w' → w.heap.size ≤ r → Rd w' r code' 0 → Bytes code' → R (.pointer (some ⟨r, 0, none⟩)) w') : clT PR 129 [v] w R := by
  refine Fspec_l6Open.cl ?_
  unfold Fspec_l6Open
  obtain ⟨⟨A, c, rfl, hc⟩, hs⟩ := h
  have fin : ∀ (t : Nat) (code' : List Int) (v' : Value), (∃ A c, v' = .slice A code'.length c ∧ code'.length ≤ c) → (code' = [] ∨ Sl kByte (fun w _ b _ => b < w.heap.size) w [] code' v') → Bytes code' →
      bldT #[(.slice none 0 0), (.int .i64 0)] [(0, 1, v')] fun t9 => boxT t t9 w fun t10 w2 => R t10 w2 := by
    intro t code' v' hv hs' hb'
    obtain ⟨A', c', rfl, hc'⟩ := hv
    refine bld_of (cs := #[.slice A' code'.length c', .int .i64 0]) rfl ?_
    refine box_of' (fun b w' e hbs k => ?_)
    refine hR b w' code' e hbs ⟨_, k.cell (o := 0) rfl, k.cell (o := 1) rfl, k.warm, ⟨A', c', rfl⟩, hs'.imp id (fun h => h.frame (fun r x m hx => ⟨fun o v hc => Ext.cell e hc, fun e => by have h1 : x < w.heap.size := hx; have h2 : b ≤ x := e; omega⟩))⟩ hb'
  repeat ((first | refine gtr_of ?_ | refine lenS_of ?_))
  refine condP_of (fun hl => ?_) (fun hl => ?_)
  · have hs2 := hs.resolve_left (fun e => by rw [e] at hl; simp at hl)
    refine slrE_of (kd := kByte) (ok := fun w _ b _ => b < w.heap.size) (q := []) (by kernel_rfl) (fun w p q b m m' h => h) hs2 (by omega) (by omega) (fun v' hv' => ?_)
    obtain ⟨A', c', h1, h2, _⟩ := id hv'
    refine fin _ _ v' ⟨A', c', h1, h2⟩ (.inr hv') ⟨fun x hx => hb x (List.mem_of_mem_take hx), by rw [List.length_take]; omega⟩
  · exact fin _ code _ ⟨A, c, rfl, hc⟩ hs ⟨hb, by omega⟩

/-! ### a function that draws -/
variable {α : Type}
def labR (r : Nat) : Lab := lab1 r [9]
theorem labR_self (r : Nat) : labR r r = some [9] := by unfold labR lab1; simp
theorem labR_none {r b : Nat} (h : b ≠ r) : labR r b = none := by unfold labR lab1; simp [h]
/-- What a drawing function leaves. -/
structure Dn (r : Nat) (code : List Int) (pos d : Int) (w w' : World) (M : Lab) (pos' : Int) : Prop where
  fr : Fr (fun x => x = r) w w'
  rd : Rd w' r code pos'
  lo : pos ≤ pos'
  hi : pos' ≤ pos + d
  born : Born w M
  lim : Lim M w'
/-- Where a drawing function stands. -/
structure ER (r : Nat) (code : List Int) (pos : Int) (w0 : World) (L : Lab) (w : World) (l : List (Nat × List Value)) : Prop where
  en : En (labR r) w0 L w l
  rd : Rd w r code pos
  lab : L r = some [9]
  lt : r < w0.heap.size
/-- A world went on, but for the reader. -/
structure Tk (r : Nat) (L : Lab) (w : World) (L' : Lab) (w' : World) : Prop where
  fr : Fr (fun x => x = r) w w'
  lab : L r = some [9]
  keep : ∀ b p, L b = some p → L' b = some p
theorem Sl.tr {kd : Kd α} {r i : Nat} {q : List Nat} {L L' : Lab} {w w' : World} {xs : List α} {v : Value} (h : Sl kd (Own L) w (i :: q) xs v) (T : Tk r L w L' w') (hi : i ≠ 9) : Sl kd (Own L') w' (i :: q) xs v :=
  h.own T.fr (fun b s hb => ⟨fun e => by rw [e, T.lab] at hb; simp at hb; exact hi hb.1.symm, T.keep _ _ hb⟩)
theorem Sl.trUn {kd : Kd α} {r n : Nat} {q : List Nat} {L L' : Lab} {w0 w w' : World} {l : List (Nat × List Value)} {xs : List α} {v : Value} (h : Sl kd (Un (labR r) n) w0 q xs v) (E : En (labR r) w0 L w l) (hn : n ≤ w0.heap.size) : Sl kd (Un L n) w q xs v := E.un h hn
section
variable {r : Nat} {code : List Int} {pos pos' d : Int} {w0 w w' : World} {L L' M : Lab} {l : List (Nat × List Value)}
theorem ER.init (h : Rd w r code pos) : ER r code pos w (labR r) w [] := ⟨En.init (lab1_lim h.lt), h, labR_self r, h.lt⟩
theorem ER.ext (E : ER r code pos w0 L w l) (e : Ext w w') : ER r code pos w0 L w' l := ⟨E.en.ext e, E.rd.fr e, E.lab, E.lt⟩
theorem ER.drew (E : ER r code pos w0 L w l) : ER r code pos w0 L w.drew l := E.ext (Fr.refl _ _).drew
theorem ER.fresh (E : ER r code pos w0 L w l) {b : Nat} {p : List Nat} (h : L b = some p) (hb : b ≠ r) : w0.heap.size ≤ b := by
  rcases Nat.lt_or_ge b w0.heap.size with hlt | hge
  · rw [E.en.mu.un b hlt (labR_none hb)] at h; cases h
  · exact hge
theorem ER.fr (E : ER r code pos w0 L w l) : Fr (fun x => x = r) w0 w := E.en.mu.fr.to (fun b _ h => by
  rcases Nat.decEq b r with hb | hb
  · exact absurd (labR_none hb) h
  · exact hb)
theorem ER.pop {x : Nat × List Value} (E : ER r code pos w0 L w (x :: l)) : ER r code pos w0 L w l := ⟨E.en.pop, E.rd, E.lab, E.lt⟩
theorem ER.bsl (E : ER r code pos w0 L w l) {e n size : Nat} {z : Array Value} {parts : List (Nat × Nat × Value)} {k : VW} (hp : parts = full size 0 (parts.map fun p => p.2.2)) (hn : n = parts.length) (hs : (parts.all fun p => p.2.2.cells.size == size) = true)
    (hk : ∀ b w', ER r code pos w0 L w' ((b, flat (parts.map fun p => p.2.2)) :: l) → Ext w w' → k (.slice (some ⟨b, 0, none⟩) n n) w') : bslT e n size z parts w k :=
  E.en.bsl hp hn hs (fun b w' E' e' => hk b w' ⟨E', E.rd.fr e', E.lab, E.lt⟩ e')
theorem ER.al (E : ER r code pos w0 L w l) {t : Nat} {z : Array Value} {k : VW} (hk : ∀ b w', ER r code pos w0 L w' ((b, z.toList) :: l) → Ext w w' → k (.pointer (some ⟨b, 0, none⟩)) w') : allocT t z w k :=
  E.en.al (fun b w' E' e' => hk b w' ⟨E', E.rd.fr e', E.lab, E.lt⟩ e')
theorem ER.st' (l1 : List (Nat × List Value)) {l2 : List (Nat × List Value)} {b o : Nat} {cs : List Value} {v : Value} {k : World → Prop} (E : ER r code pos w0 L w (l1 ++ (b, cs) :: l2)) (ho : o < cs.length) (h1 : v.oneCell' = true)
    (hk : ∀ w', ER r code pos w0 L w' (l1 ++ (b, cs.set o v) :: l2) → Loc L w w' b → k w') : stT (.pointer (some ⟨b, o, none⟩)) v w k :=
  E.en.st' l1 ho h1 (fun w' E' e' => hk w' ⟨E', E.rd.keep e'.fr (fun x hx => by have h1 := (E.en.loc (b, cs) (by simp)).2; have h2 := E.lt; simp only at h1; omega), E.lab, E.lt⟩ e')
theorem ER.sts' (l1 : List (Nat × List Value)) {l2 : List (Nat × List Value)} {b n : Nat} {cs vs : List Value} {v : Value} {k : World → Prop} (hv : v.cells.toList = vs) (E : ER r code pos w0 L w (l1 ++ (b, cs) :: l2)) (hn : n = vs.length) (hl : cs.length = vs.length) (h1 : ∀ u ∈ vs, u.oneCell' = true)
    (hk : ∀ w', ER r code pos w0 L w' (l1 ++ (b, vs) :: l2) → Loc L w w' b → k w') : stsT n (.pointer (some ⟨b, 0, none⟩)) v w k :=
  E.en.sts' l1 hv hn hl h1 (fun w' E' e' => hk w' ⟨E', E.rd.keep e'.fr (fun x hx => by have h1 := (E.en.loc (b, cs) (by simp)).2; have h2 := E.lt; simp only at h1; omega), E.lab, E.lt⟩ e')
/-- A row of one's own grew. -/
theorem ER.grow (E : ER r code pos w0 L w l) {i : Nat} {q : List Nat} (g : Grw (i :: q) L w L' w') (hi : i ≠ 9) : ER r code pos w0 L' w' l :=
  ⟨E.en.grow g, E.rd.keep g.fr (fun x hx => by
    have hx' : x ≠ r := fun e => by have := E.lab; rw [e, this] at hx; simp at hx; exact hi hx.1.symm
    have := E.fresh hx hx'; have := E.lt; omega), g.lx.lab E.en.mu.lim E.lab, E.lt⟩
/-- A row of one's own is written. -/
theorem ER.wr (E : ER r code pos w0 L w l) {i b : Nat} {q : List Nat} (hb : L b = some (i :: q)) (hi : i ≠ 9) (e : Fr (fun x => x = b) w w') : ER r code pos w0 L w' l :=
  ⟨E.en.call (Mut.at e hb E.en.mu.lim), E.rd.keep e (fun x hx => by
    have hx' : x ≠ r := fun e => by have := E.lab; rw [← hx, e, this] at hb; simp at hb; exact hi hb.1.symm
    have := E.fresh (hx ▸ hb) hx'; have := E.lt; omega), E.lab, E.lt⟩
theorem ER.take (E : ER r code pos w0 L w l) (q : List Nat) (D : Dn r code pos d w w' M pos') : ER r code pos' w0 (joinL L q M) w' l ∧ Tk r L w (joinL L q M) w' :=
  ⟨⟨E.en.call ⟨D.fr.to (fun b _ e => by rw [e, E.lab]; exact fun h => by cases h), fun b hb hn => joinL_none (by
      cases hM : M b with
      | none => rfl
      | some p => have := D.born b p hM; omega) hn, joinL_lim (E.en.mu.lim.fr D.fr) D.lim⟩, D.rd, joinL_left E.lab, E.lt⟩,
    ⟨D.fr, E.lab, fun b p h => joinL_left h⟩⟩
theorem ER.apart (E : ER r code pos w0 L w l) (D : Dn r code pos d w w' M pos') : Apart L M := apart_of E.en.mu.lim D.born
/-- What lies under a label is taken out. -/
def subL (i : Nat) (L : Lab) : Lab := fun b => match L b with | some (j :: p) => if j = i then some p else none | _ => none
theorem subL_some {i b : Nat} {p : List Nat} (h : subL i L b = some p) : L b = some (i :: p) := by
  unfold subL at h
  split at h
  · rename_i j q hq
    split at h
    · rename_i e; subst e; rw [hq, Option.some.inj h]
    · cases h
  · cases h
theorem subL_of {i b : Nat} {p : List Nat} (h : L b = some (i :: p)) : subL i L b = some p := by unfold subL; rw [h]; simp
theorem Sl.sub {kd : Kd α} {i : Nat} {q : List Nat} {xs : List α} {v : Value} (h : Sl kd (Own L) w (i :: q) xs v) : Sl kd (Own (subL i L)) w q xs v :=
  h.own (Fr.refl No w) (fun b s hb => ⟨fun e => e, subL_of (by simpa using hb)⟩)
theorem ER.done (E : ER r code pos' w0 L w l) (i : Nat) (h1 : pos ≤ pos') (h2 : pos' ≤ pos + d) (hi : i ≠ 9) : Dn r code pos d w0 w (subL i L) pos' :=
  ⟨E.fr, E.rd, h1, h2, fun b p hb => E.fresh (subL_some hb) (fun e => by have h := subL_some hb; rw [e, E.lab] at h; simp at h; exact hi h.1.symm), fun b p hb => E.en.mu.lim b _ (subL_some hb)⟩
theorem c_pickE {n : Int} {R : VW} (E : ER r code pos w0 L w l) (hb : Bytes code) (hp : 0 ≤ pos) (hp' : pos ≤ 100000) (hn : 1 ≤ n)
    (hR : ∀ v w', 0 ≤ v → v < n → ER r code (pos + 1) w0 L w' l → Tk r L w L w' → R (.int .i64 v) w') : clT PR 160 [.pointer (some ⟨r, 0, none⟩), .int .i64 n] w R :=
  c_pick E.rd hb hp hp' hn (fun v w' h0 h1 e hrd => hR v w' h0 h1 ⟨E.en.call (Mut.at e E.lab E.en.mu.lim), hrd, E.lab, E.lt⟩ ⟨e, E.lab, fun _ _ h => h⟩)
/-- Fresh data that no draw made join one's own. -/
theorem ER.join (E : ER r code pos w0 L w l) (q : List Nat) (e : Ext w w') (hb : Born w M) (hm : Lim M w') : ER r code pos w0 (joinL L q M) w' l := ⟨E.en.join q e hb hm, E.rd.fr e, joinL_left E.lab, E.lt⟩
end
end Go.PT

/- Drawn operations. -/
set_option linter.unusedVariables false
set_option linter.unusedSimpArgs false
set_option maxRecDepth 100000
namespace Go.PT
attribute [local irreducible] ldT ldsT stT stsT allocT boxT bldT bslT nilT fadT ixaT fldT extT lenT pickT binT notT cviT opT opU condT clT clvT ivT loopT arT ndT World.cell? World.frozen? World.alloc World.drew World.setCell Blk Cells Sl
variable {α : Type}
def opW (n t : Int) (op : V) : Prop := ∀ (p : Pg) (m : Meth), (p.length : Int) = n → m.temps = t → opOk p m op = true
def opsW (n t : Int) (l : List V) : Prop := ∀ op ∈ l, opW n t op
theorem opsW.nil {n t : Int} : opsW n t [] := fun _ h => by cases h
theorem opsW.add {n t : Int} {l : List V} {op : V} (h : opsW n t l) (k : opW n t op) : opsW n t (l ++ [op]) := fun x hx => by
  rcases List.mem_append.mp hx with hx | hx
  · exact h x hx
  · rw [List.mem_singleton.mp hx]; exact k
theorem opsW.two {n t : Int} {l k : List V} (h : opsW n t l) (h2 : opsW n t k) : opsW n t (l ++ k) := fun x hx => by
  rcases List.mem_append.mp hx with hx | hx
  · exact h x hx
  · exact h2 x hx
theorem opsW.cons {n t : Int} {l : List V} {op : V} (k : opW n t op) (h : opsW n t l) : opsW n t (op :: l) := fun x hx => by
  rcases List.mem_cons.mp hx with rfl | hx
  · exact k
  · exact h x hx
theorem opW.num {n t x : Int} (h0 : 0 ≤ x) (h1 : x ≤ 99) : opW n t (1, x) := fun p m _ _ => by unfold opOk; simp [inB_t h0 h1]
theorem opW.temp {n t x : Int} (h0 : 0 ≤ x) (h1 : x < t) : opW n t (2, x) := fun p m _ ht => by unfold opOk; rw [if_neg (by simp), if_pos (by simp)]; exact inB_t h0 (by simp only; omega)
theorem opW.set {n t x : Int} (h0 : 0 ≤ x) (h1 : x < t) : opW n t (3, x) := fun p m _ ht => by unfold opOk; rw [if_neg (by simp), if_pos (by simp)]; exact inB_t h0 (by simp only; omega)
theorem opW.call {n t x : Int} (h0 : 0 ≤ x) (h1 : x < n) : opW n t (9, x) := fun p m hn _ => by unfold opOk; rw [if_neg (by simp), if_neg (by simp), if_neg (by simp), if_pos (by simp)]; exact inB_t h0 (by simp only; omega)
theorem opW.slot {n t k x : Int} (h0 : 0 ≤ x) (h1 : x ≤ 3) (hk : k = 13 ∨ k = 14) : opW n t (k, x) := fun p m hn _ => by rcases hk with rfl | rfl <;> (unfold opOk; simp [inB_t h0 h1])
theorem opW.bare {n t : Int} (k : Int) (h : k ∈ [4, 5, 6, 10, 11, 12, 15, 16, 17, 18]) : opW n t (k, 0) := fun p m hn _ => by
  simp only [List.mem_cons, List.not_mem_nil, or_false] at h
  rcases h with rfl | rfl | rfl | rfl | rfl | rfl | rfl | rfl | rfl | rfl <;> (unfold opOk; simp [inB])
def flat2 : List V → List Int
  | [] => []
  | x :: l => x.1 :: x.2 :: flat2 l
theorem flat2_len : ∀ l : List V, (flat2 l).length = 2 * l.length
  | [] => rfl
  | x :: l => by rw [flat2, List.length_cons, List.length_cons, flat2_len l, List.length_cons]; omega
theorem flat2_at : ∀ (l : List V) (j : Nat) (x : V), l[j]? = some x → (flat2 l)[2 * j]? = some x.1 ∧ (flat2 l)[2 * j + 1]? = some x.2
  | [], j, x, h => by simp at h
  | y :: l, 0, x, h => by simp at h; subst h; exact ⟨rfl, rfl⟩
  | y :: l, j + 1, x, h => by
    rw [show 2 * (j + 1) = 2 * j + 1 + 1 by omega]
    exact flat2_at l j x (by simpa using h)
theorem c_ops {xs : List V} {v : Value} {w : World} {R : VW} (h : Sl kInt Any w [] (flat2 xs) v) (hl : xs.length ≤ 1000)
    (hR : ∀ v' w' M, Ext w w' → Born w M → Lim M w' → Sl kPair (Own M) w' [] xs v' → R v' w') : clT PR 288 [v] w R := by
  refine Fspec_l71Ops.cl ?_
  unfold Fspec_l71Ops
  have E := En.start w
  refine E.bsl rfl rfl rfl (fun b0 w1 E e1 => ?_)
  have hfl := flat2_len xs
  refine loop_of (fun m s wx => ∃ (i : Nat) (v' : Value) (L : Lab), s = [v, .slice none 0 0, v', .int .i64 ((2 * i : Nat) : Int)] ∧ i + m = xs.length ∧ En noL w L wx [] ∧ Sl kPair (Own L) wx [] (xs.take i) v') ?_ (m := xs.length)
    ⟨0, _, noL, rfl, by omega, E.pop, Sl.none0⟩
  clear E
  rintro m s wx Kn ⟨i, v', L, rfl, hi, E, hv⟩ hKn
  intro _
  simp only [List.headD_cons, List.tail_cons]
  repeat (first | ((refine lss_of ?_)) | ((refine add_of (by (omega)) (by (omega)) ?_)) | (refine Sl.len_of (by assumption) ?_))
  refine condLt_of (fun hc => ?_) (fun hc => ?_)
  · have hil : i < xs.length := by omega
    obtain ⟨g1, g2⟩ := flat2_at xs i _ (List.getElem?_eq_getElem hil)
    replace E := E.drew
    repeat ((fail))
    refine int_ix (E.any (q := []) h) (by omega) (by omega) (fun b o hcell => ?_)
    have q1 : intAt (flat2 xs) ((2 * i : Nat) : Int) = xs[i].1 := by rw [intAt, Int.toNat_natCast]; exact intAt_of g1
    rw [q1] at hcell
    refine ld_of hcell ?_
    repeat (((refine add_of (by (omega)) (by (omega)) ?_)))
    refine int_ix (E.any (q := []) h) (by omega) (by omega) (fun b' o' hcell' => ?_)
    have q2 : intAt (flat2 xs) (((2 * i : Nat) : Int) + 1) = xs[i].2 := by rw [intAt, show (((2 * i : Nat) : Int) + 1).toNat = 2 * i + 1 by omega]; exact intAt_of g2
    rw [q2] at hcell'
    refine ld_of hcell' ?_
    refine bld_of (cs := #[.int .i64 xs[i].1, .int .i64 xs[i].2]) rfl ?_
    refine E.bsl rfl rfl rfl (fun b2 w2 E e2 => ?_)
    refine grow_lit [xs[i]] (by kernel_rfl) (hv.drewX.keepX e2) (E.blk (.head _)) rfl (by simp; omega) E.mu.lim (fun v9 w9 L9 g9 _ h9 => ?_)
    replace E := E.grow g9
    repeat (((refine add_of (by (omega)) (by (omega)) ?_)))
    refine hKn (m - 1) _ _ (by omega) ⟨i + 1, v9, L9, by rw [show ((2 * (i + 1) : Nat) : Int) = ((2 * i : Nat) : Int) + 2 by omega], by omega, E.pop, ?_⟩
    rw [List.take_add_one, List.getElem?_eq_getElem hil]
    exact h9
  · intro _
    have hei : xs.take i = xs := List.take_of_length_le (by omega)
    rw [hei] at hv
    exact hR _ _ _ E.toExt E.born E.mu.lim hv

theorem flat1 {β : Type} (f : α → β) : ∀ l : List α, (l.map fun x => [f x]).flatten = l.map f
  | [] => rfl
  | x :: l => by rw [List.map_cons, List.flatten_cons, flat1 f l]; rfl
/-! ### rows that grow while a code is drawn from -/
structure Kp (i : Nat) (L : Lab) (w : World) (L' : Lab) (w' : World) : Prop where
  fr : Fr (fun b => L b = some [i]) w w'
  lab : ∀ b p, L b = some p → L' b = some p
theorem Sl.kp {kd : Kd α} {i j : Nat} {q : List Nat} {L L' : Lab} {w w' : World} {xs : List α} {v : Value} (h : Sl kd (Own L) w (j :: q) xs v) (T : Kp i L w L' w') (hi : j ≠ i) : Sl kd (Own L') w' (j :: q) xs v :=
  h.own T.fr (fun b s hb => ⟨fun e => by rw [hb] at e; simp at e; exact hi e.1, T.lab _ _ hb⟩)
section
variable {r : Nat} {code : List Int} {pos pos' d : Int} {w0 w w' : World} {L L' M : Lab} {l : List (Nat × List Value)}
theorem kp_of {i : Nat} {w1 : World} (e : Ext w w1) (g : Grw [i] L w1 L' w') (hl : Lim L w) : Kp i L w L' w' :=
  ⟨e.trans' g.fr (fun _ _ h => h.elim) (fun _ _ h => h), fun b p h => g.lx.lab (hl.fr e) h⟩
theorem ER.app1 {t ty e i : Nat} {z : Array Value} {k : VW} {xs : List V} {v : Value} {op : V} (E : ER r code pos w0 L w l) (hc : appB PR t (PR.elem t) 2 = true) (hv : Sl kPair (Own L) w [i] xs v) (hn : xs.length + 1 ≤ 1073741824) (hi : i ≠ 9)
    (hk : ∀ v' w' L', ER r code pos w0 L' w' l → Kp i L w L' w' → Sl kPair (Own L') w' [i] (xs ++ [op]) v' → k v' w') :
    bslT e 1 2 z [(0, 2, .agg #[.int .i64 op.1, .int .i64 op.2])] w fun t1 w2 => opT PR (Builtin.append_ #[t, t] ty #[v, t1]) w2 k :=
  E.bsl rfl rfl rfl (fun b2 w2 E2 e2 => grow_lit [op] hc (hv.keepX e2) (E2.en.blk (.head _)) rfl (by simpa using hn) E2.en.mu.lim (fun v' w' L' g _ h => hk v' w' L' (E2.pop.grow g (by simpa using hi)) (kp_of e2 g E.en.mu.lim) h))
/-- Data that a draw made join one's own. -/
theorem ER.draw {kd : Kd α} {xs : List α} {v : Value} (E : ER r code pos w0 L w l) (i : Nat) (D : Dn r code pos d w w' M pos') (h : Sl kd (Own M) w' [] xs v) : ∃ L', ER r code pos' w0 L' w' l ∧ Tk r L w L' w' ∧ Sl kd (Own L') w' [i] xs v :=
  ⟨joinL L [i] M, (E.take [i] D).1, (E.take [i] D).2, h.inR (q := [i]) (E.apart D)⟩
theorem ER.made {kd : Kd α} {xs : List α} {v : Value} (E : ER r code pos w0 L w l) (i : Nat) (e : Ext w w') (hb : Born w M) (hm : Lim M w') (h : Sl kd (Own M) w' [] xs v) : ∃ L', ER r code pos w0 L' w' l ∧ Tk r L w L' w' ∧ Sl kd (Own L') w' [i] xs v :=
  ⟨joinL L [i] M, E.join [i] e hb hm, ⟨Fr.to e (fun _ _ h => h.elim), E.lab, fun b p h => joinL_left h⟩, h.inR (q := [i]) (apart_of E.en.mu.lim hb)⟩
/-- Numbers written out are read as operations. -/
theorem ER.ops {e n : Nat} {z : Array Value} {parts : List (Nat × Nat × Value)} {R : VW} (E : ER r code pos w0 L w l) (xs : List V) (hp : parts = full 1 0 (parts.map fun p => p.2.2)) (hn : n = parts.length) (hs : (parts.all fun p => p.2.2.cells.size == 1) = true)
    (hc : flat (parts.map fun p => p.2.2) = (flat2 xs).map fun x => Value.int .i64 x) (hl : parts.length = (flat2 xs).length) (hx : xs.length ≤ 1000) (hR : ∀ v' w' L', ER r code pos w0 L' w' l → Tk r L w L' w' → Sl kPair (Own L') w' [0] xs v' → R v' w') :
    bslT e n 1 z parts w fun t w2 => clT PR 288 [t] w2 R := by
  refine E.bsl hp hn hs (fun b w2 E2 e2 => ?_)
  have hb := E2.en.blk (.head _)
  have hin : Sl kInt Any w2 [] (flat2 xs) (.slice (some ⟨b, 0, none⟩) n n) := sl_flat (rest := []) (by rw [hc] at hb; rw [List.append_nil, flat1]; exact hb) (by omega) (Nat.le_refl _) hb.lt
  refine c_ops hin hx (fun v' w' M e3 hb3 hm3 h3 => ?_)
  obtain ⟨L', E', T, h'⟩ := E2.pop.made 0 e3 hb3 hm3 h3
  exact hR _ _ _ E' ⟨(Fr.to (S' := fun x => x = r) e2 (fun _ _ h => h.elim)).trans T.fr, E.lab, T.keep⟩ h'
end
theorem c_args {r : Nat} {code : List Int} {pos n t N : Int} {w : World} {R : VW} (hrd : Rd w r code pos) (hb : Bytes code) (hp : 0 ≤ pos) (hp' : pos ≤ 90000) (hn0 : 0 ≤ n) (hn : n ≤ 2) (ht0 : 1 ≤ t)
    (hR : ∀ v w' M pos' ops, Dn r code pos 4 w w' M pos' → Sl kPair (Own M) w' [] ops v → opsW N t ops → ops.length ≤ 2 → R v w') : clT PR 290 [.pointer (some ⟨r, 0, none⟩), .int .i64 n, .int .i64 t] w R := by
  refine Fspec_l71Args.cl ?_
  unfold Fspec_l71Args
  have E := ER.init hrd
  refine E.bsl rfl rfl rfl (fun b0 w1 E e1 => ?_)
  refine loop_of (fun m s wx => ∃ (i : Nat) (v' : Value) (L : Lab) (ops : List V) (q : Int), s = [.pointer (some ⟨r, 0, none⟩), .int .i64 n, .int .i64 t, .slice none 0 0, v', .int .i64 i] ∧ (i : Int) + m = n ∧ ops.length = i ∧ opsW N t ops ∧ pos ≤ q ∧ q ≤ pos + 2 * i ∧
    ER r code q w L wx [] ∧ Sl kPair (Own L) wx [0] ops v') ?_ (m := n.toNat)
    ⟨0, _, labR r, [], pos, rfl, by omega, rfl, opsW.nil, by omega, by omega, E.pop, Sl.none0⟩
  clear E
  rintro m s wx Kn ⟨i, v', L, ops, q, rfl, hi, hol, how, hq0, hq1, E, hv⟩ hKn
  intro _
  simp only [List.headD_cons, List.tail_cons]
  repeat (((refine lss_of ?_)))
  refine condLt_of (fun hc => ?_) (fun hc => ?_)
  · refine c_pickE E hb (by omega) (by omega) (by omega) (fun x w2 hx0 hx1 E T => ?_)
    replace hv := hv.tr T (by decide)
    have next : ∀ (op : V) (wz : World) (L' : Lab) (v9 : Value) (q' : Int), opW N t op → q ≤ q' → q' ≤ q + 2 → ER r code q' w L' wz [] → Sl kPair (Own L') wz [0] (ops ++ [op]) v9 → Kn [.pointer (some ⟨r, 0, none⟩), .int .i64 n, .int .i64 t, .slice none 0 0, v9, .int .i64 ((i : Int) + 1)] wz := by
      intro op wz L' v9 q' hop h1 h2 E' h9
      exact hKn (m - 1) _ _ (by omega) ⟨i + 1, v9, L', ops ++ [op], q', rfl, by omega, by simp [hol], how.add hop, by omega, by omega, E', h9⟩
    repeat (((refine eql_of ?_)))
    refine condP_of (fun hk => ?_) (fun hk => ?_)
    · refine bld_of (cs := #[.int .i64 11, .int .i64 0]) rfl ?_
      refine E.app1 (op := (11, 0)) (by kernel_rfl) hv (by omega) (by decide) (fun v9 w9 L9 E9 T9 h9 => ?_)
      repeat (((refine add_of (by (omega)) (by (omega)) ?_)))
      exact next _ _ _ _ _ (opW.bare 11 (by decide)) (by omega) (by omega) E9 h9
    · repeat (((refine eql_of ?_)))
      refine condP_of (fun hk2 => ?_) (fun hk2 => ?_)
      · refine c_pickE E hb (by omega) (by omega) (by omega) (fun y w3 hy0 hy1 E T => ?_)
        replace hv := hv.tr T (by decide)
        refine bld_of (cs := #[.int .i64 1, .int .i64 y]) rfl ?_
        refine E.app1 (op := (1, y)) (by kernel_rfl) hv (by omega) (by decide) (fun v9 w9 L9 E9 T9 h9 => ?_)
        repeat (((refine add_of (by (omega)) (by (omega)) ?_)))
        exact next _ _ _ _ _ (opW.num hy0 (by omega)) (by omega) (by omega) E9 h9
      · refine c_pickE E hb (by omega) (by omega) (by omega) (fun y w3 hy0 hy1 E T => ?_)
        replace hv := hv.tr T (by decide)
        refine bld_of (cs := #[.int .i64 2, .int .i64 y]) rfl ?_
        refine E.app1 (op := (2, y)) (by kernel_rfl) hv (by omega) (by decide) (fun v9 w9 L9 E9 T9 h9 => ?_)
        repeat (((refine add_of (by (omega)) (by (omega)) ?_)))
        exact next _ _ _ _ _ (opW.temp hy0 hy1) (by omega) (by omega) E9 h9
  · intro _
    exact hR _ _ _ q ops (E.done 0 hq0 (by omega) (by decide)) hv.sub how (by omega)
theorem c_end {r : Nat} {code : List Int} {pos t N : Int} {w : World} {R : VW} (hrd : Rd w r code pos) (hb : Bytes code) (hp : 0 ≤ pos) (hp' : pos ≤ 90000) (ht0 : 1 ≤ t)
    (hR : ∀ w' pos' op, Dn r code pos 2 w w' noL pos' → opW N t op → R (.agg #[.int .i64 op.1, .int .i64 op.2]) w') : clT PR 289 [.pointer (some ⟨r, 0, none⟩), .int .i64 t] w R := by
  refine Fspec_l71End.cl ?_
  unfold Fspec_l71End
  have E := ER.init hrd
  refine E.al (fun b1 w1 E e1 => ?_)
  have next : ∀ (op : V) (wz : World) (q' : Int), opW N t op → pos ≤ q' → q' ≤ pos + 2 → ER r code q' w (labR r) wz [(b1, [.int .i64 0, .int .i64 0])] → stsT 2 (.pointer (some ⟨b1, 0, none⟩)) (.agg #[.int .i64 op.1, .int .i64 op.2]) wz fun w3 => ldsT 2 (.pointer (some ⟨b1, 0, none⟩)) w3 fun r4 => R r4 w3 := by
    intro op wz q' hop h1 h2 E'
    refine ER.sts' (vs := [.int .i64 op.1, .int .i64 op.2]) [] rfl E' rfl rfl (by simp [Value.oneCell']) (fun w3 E3 e3 => ?_)
    refine E3.en.lds (.head _) rfl ?_
    exact hR _ q' op ⟨E3.fr, E3.rd, h1, h2, noL_born _, noL_lim _⟩ hop
  refine c_pickE E hb (by omega) (by omega) (by omega) (fun x w2 hx0 hx1 E T => ?_)
  repeat (((refine eql_of ?_)))
  refine condP_of (fun hk => ?_) (fun hk => ?_)
  · refine bld_of (cs := #[.int .i64 4, .int .i64 0]) rfl ?_
    exact next (4, 0) _ _ (opW.bare 4 (by decide)) (by omega) (by omega) E
  · repeat (((refine eql_of ?_)))
    have fin : ∀ (q : Bool), Fspec_l71End.j1 (.pointer (some ⟨r, 0, none⟩)) (.int .i64 t) (.pointer (some ⟨b1, 0, none⟩)) (.bool q) w2 R := by
      intro q _
      refine cond_of (fun _ => ?_) (fun _ => ?_)
      · refine bld_of (cs := #[.int .i64 16, .int .i64 0]) rfl ?_
        exact next (16, 0) _ _ (opW.bare 16 (by decide)) (by omega) (by omega) E
      · intro _
        refine c_pickE E hb (by omega) (by omega) (by omega) (fun y w3 hy0 hy1 E T => ?_)
        refine bld_of (cs := #[.int .i64 3, .int .i64 y]) rfl ?_
        exact next (3, y) _ _ (opW.set hy0 hy1) (by omega) (by omega) E
    refine condP_of (fun hk1 => ?_) (fun hk1 => ?_)
    · exact fin _
    · repeat (((refine eql_of ?_)))
      exact fin _
end Go.PT

/- Drawn parts of methods. -/
set_option linter.unusedVariables false
set_option linter.unusedSimpArgs false
set_option maxRecDepth 100000
namespace Go.PT
attribute [local irreducible] ldT ldsT stT stsT allocT boxT bldT bslT nilT fadT ixaT fldT extT lenT pickT binT notT cviT opT opU condT clT clvT ivT loopT arT ndT World.cell? World.frozen? World.alloc World.drew World.setCell Blk Cells Sl
theorem c_look71 {r : Nat} {code : List Int} {pos t N : Int} {w : World} {R : VW} (hrd : Rd w r code pos) (hb : Bytes code) (hp : 0 ≤ pos) (hp' : pos ≤ 90000) (ht0 : 1 ≤ t)
    (hR : ∀ v w' M pos' ops, Dn r code pos 4 w w' M pos' → Sl kPair (Own M) w' [] ops v → opsW N t ops → ops.length ≤ 3 → R v w') : clT PR 291 [.pointer (some ⟨r, 0, none⟩), .int .i64 t] w R := by
  refine Fspec_l71Look.cl ?_
  unfold Fspec_l71Look
  have E := ER.init hrd
  have here : opsW N t [(11, 0)] := opsW.cons (opW.bare 11 (by decide)) opsW.nil
  refine E.ops [(11, 0)] rfl rfl rfl rfl rfl (by simp) (fun v1 w1 L1 E T h1 => ?_)
  refine c_pickE E hb (by omega) (by omega) (by omega) (fun x w2 hx0 hx1 E T => ?_)
  replace h1 := h1.tr T (by decide)
  have last : ∀ (q : Int) (v : Value) (ops : List V) (wz : World) (L : Lab), ER r code q w L wz [] → pos ≤ q → q ≤ pos + 2 → Sl kPair (Own L) wz [0] ops v → opsW N t ops → ops.length ≤ 2 →
      Fspec_l71Look.j1 (.pointer (some ⟨r, 0, none⟩)) v wz R := by
    intro q v ops wz L E hq0 hq1 h how hlen _
    have fin : ∀ (op : V) (w3 : World) (L' : Lab) (v9 : Value) (q' : Int), opW N t op → pos ≤ q' → q' ≤ pos + 4 → ER r code q' w L' w3 [] → Sl kPair (Own L') w3 [0] (ops ++ [op]) v9 → R v9 w3 := by
      intro op w3 L' v9 q' hop h1 h2 E' h9
      exact hR _ _ _ q' _ (E'.done 0 h1 h2 (by decide)) h9.sub (how.add hop) (by simp; omega)
    refine c_pickE E hb (by omega) (by omega) (by omega) (fun y w3 hy0 hy1 E T => ?_)
    replace h := h.tr T (by decide)
    repeat (((refine eql_of ?_)))
    have j2 : ∀ (b : Bool), Fspec_l71Look.j2 (.pointer (some ⟨r, 0, none⟩)) v (.int .i64 y) (.bool b) w3 R := by
      intro b _
      refine cond_of (fun _ => ?_) (fun _ => ?_)
      · refine c_pickE E hb (by omega) (by omega) (by omega) (fun z w4 hz0 hz1 E T => ?_)
        replace h := h.tr T (by decide)
        refine bld_of (cs := #[.int .i64 13, .int .i64 z]) rfl ?_
        refine E.app1 (op := (13, z)) (by kernel_rfl) h (by omega) (by decide) (fun v9 w9 L9 E9 T9 h9 => ?_)
        exact fin _ _ _ _ _ (opW.slot hz0 (by omega) (.inl rfl)) (by omega) (by omega) E9 h9
      · repeat (((refine eql_of ?_)))
        refine condP_of (fun hk => ?_) (fun hk => ?_)
        · refine bld_of (cs := #[.int .i64 17, .int .i64 0]) rfl ?_
          refine E.app1 (op := (17, 0)) (by kernel_rfl) h (by omega) (by decide) (fun v9 w9 L9 E9 T9 h9 => ?_)
          exact fin _ _ _ _ _ (opW.bare 17 (by decide)) (by omega) (by omega) E9 h9
        · repeat (((refine eql_of ?_)))
          refine condP_of (fun hk => ?_) (fun hk => ?_)
          · refine bld_of (cs := #[.int .i64 18, .int .i64 0]) rfl ?_
            refine E.app1 (op := (18, 0)) (by kernel_rfl) h (by omega) (by decide) (fun v9 w9 L9 E9 T9 h9 => ?_)
            exact fin _ _ _ _ _ (opW.bare 18 (by decide)) (by omega) (by omega) E9 h9
          · intro _
            exact hR _ _ _ _ ops (E.done 0 (by omega) (by omega) (by decide)) h.sub how (by omega)
    refine condP_of (fun hk => ?_) (fun hk => ?_)
    · refine bld_of (cs := #[.int .i64 12, .int .i64 0]) rfl ?_
      refine E.app1 (op := (12, 0)) (by kernel_rfl) h (by omega) (by decide) (fun v9 w9 L9 E9 T9 h9 => ?_)
      exact fin _ _ _ _ _ (opW.bare 12 (by decide)) (by omega) (by omega) E9 h9
    · repeat (((refine eql_of ?_)))
      refine condP_of (fun hk => ?_) (fun hk => ?_)
      · exact j2 _
      · repeat (((refine eql_of ?_)))
        exact j2 _
  repeat (((refine eql_of ?_)))
  have j4 : ∀ (b : Bool), Fspec_l71Look.j4 (.pointer (some ⟨r, 0, none⟩)) v1 (.bool b) w2 R := by
    intro b _
    refine cond_of (fun _ => ?_) (fun _ => ?_)
    · refine E.ops [(11, 0), (12, 0)] rfl rfl rfl rfl rfl (by simp) (fun v3 w3 L3 E T h3 => ?_)
      intro _
      exact last _ _ _ _ _ E (by omega) (by omega) h3 (opsW.cons (opW.bare 11 (by decide)) (opsW.cons (opW.bare 12 (by decide)) opsW.nil)) (by simp)
    · intro _
      exact last _ _ _ _ _ E (by omega) (by omega) h1 here (by decide)
  refine condP_of (fun hk => ?_) (fun hk => ?_)
  · refine c_pickE E hb (by omega) (by omega) (by omega) (fun y w3 hy0 hy1 E T => ?_)
    refine E.ops [(2, y)] rfl rfl rfl rfl rfl (by simp) (fun v3 w3 L3 E T h3 => ?_)
    exact last _ _ _ _ _ E (by omega) (by omega) h3 (opsW.cons (opW.temp hy0 hy1) opsW.nil) (by simp)
  · repeat (((refine eql_of ?_)))
    refine condP_of (fun hk => ?_) (fun hk => ?_)
    · exact j4 _
    · repeat (((refine eql_of ?_)))
      exact j4 _
theorem c_part {r : Nat} {code : List Int} {pos t : Int} {args : List Int} {va : Value} {w : World} {R : VW} (hrd : Rd w r code pos) (hb : Bytes code) (hp : 0 ≤ pos) (hp' : pos ≤ 80000) (ht0 : 1 ≤ t)
    (ha : Sl kInt Any w [] args va) (hu : Sl kInt (Un (labR r) w.heap.size) w [] args va) (ha1 : 1 ≤ args.length) (ha2 : args.length ≤ 1000) (haw : ∀ x ∈ args, 0 ≤ x ∧ x ≤ 2)
    (hR : ∀ v w' M pos' ops, Dn r code pos 10 w w' M pos' → Sl kPair (Own M) w' [] ops v → opsW args.length t ops → ops.length ≤ 4 → R v w') : clT PR 268 [.pointer (some ⟨r, 0, none⟩), va, .int .i64 t] w R := by
  refine Fspec_l71Part.cl ?_
  unfold Fspec_l71Part
  have E := ER.init hrd
  have fin : ∀ (q : Int) (v : Value) (ops : List V) (wz : World) (L : Lab), ER r code q w L wz [] → pos ≤ q → q ≤ pos + 10 → Sl kPair (Own L) wz [0] ops v → opsW args.length t ops → ops.length ≤ 4 → R v wz := by
    intro q v ops wz L E hq0 hq1 h how hlen
    exact hR _ _ _ q _ (E.done 0 hq0 hq1 (by decide)) h.sub how hlen
  refine c_pickE E hb (by omega) (by omega) (by omega) (fun x w1 hx0 hx1 E T => ?_)
  repeat (((refine eql_of ?_)))
  -- what is put behind a row: the end's operation
  have tail : ∀ (q : Int) (v : Value) (ops : List V) (wz : World) (L : Lab), ER r code q w L wz [] → pos ≤ q → q ≤ pos + 8 → Sl kPair (Own L) wz [0] ops v → opsW args.length t ops → ops.length ≤ 3 → ∀ (tt ty e : Nat) (z : Array Value), appB PR tt (PR.elem tt) 2 = true →
      clT PR 289 [.pointer (some ⟨r, 0, none⟩), .int .i64 t] wz fun t19 w5 => bslT e 1 2 z [(0, 2, t19)] w5 fun t20 w6 => opT PR (Builtin.append_ #[tt, tt] ty #[v, t20]) w6 R := by
    intro q v ops wz L E hq0 hq1 h how hlen tt ty e z hc
    refine c_end (N := args.length) E.rd hb (by omega) (by omega) ht0 (fun w5 q5 op D hop => ?_)
    have h5 := D.lo
    have h6 := D.hi
    obtain ⟨E5, T5⟩ := E.take [7] D
    refine E5.app1 hc (h.tr T5 (by decide)) (by omega) (by decide) (fun v9 w9 L9 E9 T9 h9 => ?_)
    exact fin q5 _ _ _ _ E9 (by omega) (by omega) h9 (how.add hop) (by simp; omega)
  have j4 : ∀ (a b : Value) (u : Value), Fspec_l71Part.j4 (.pointer (some ⟨r, 0, none⟩)) a (.int .i64 t) u b w1 R := by
    intro a b u _
    refine c_pickE E hb (by omega) (by omega) (by omega) (fun y w2 hy0 hy1 E T => ?_)
    refine c_pickE E hb (by omega) (by omega) (by omega) (fun z w3 hz0 hz1 E T => ?_)
    refine E.ops [(1, y), (1, z), (5, 0), (16, 0)] rfl rfl rfl rfl rfl (by simp) (fun v3 w3 L3 E T h3 => ?_)
    exact fin _ _ _ _ _ E (by omega) (by omega) h3 (opsW.cons (opW.num hy0 (by omega)) (opsW.cons (opW.num hz0 (by omega)) (opsW.cons (opW.bare 5 (by decide)) (opsW.cons (opW.bare 16 (by decide)) opsW.nil)))) (by simp)
  have j2 : ∀ (b : Bool), Fspec_l71Part.j2 (.pointer (some ⟨r, 0, none⟩)) (.int .i64 t) (.int .i64 x) (.bool b) w1 R := by
    intro b _
    refine cond_of (fun _ => ?_) (fun _ => ?_)
    · refine c_look71 (N := args.length) E.rd hb (by omega) (by omega) ht0 (fun v2 w2 M q ops D hs how hlen => ?_)
      have h5 := D.lo
      have h6 := D.hi
      obtain ⟨L2, E, T, h⟩ := E.draw 0 D hs
      exact tail _ _ _ _ _ E (by omega) (by omega) h how hlen _ _ _ _ (by kernel_rfl)
    · repeat (((refine eql_of ?_)))
      refine condP_of (fun hk => ?_) (fun hk => ?_)
      · refine c_pickE E hb (by omega) (by omega) (by omega) (fun y w2 hy0 hy1 E T => ?_)
        refine E.ops [(11, 0), (3, y)] rfl rfl rfl rfl rfl (by simp) (fun v3 w3 L3 E T h3 => ?_)
        exact fin _ _ _ _ _ E (by omega) (by omega) h3 (opsW.cons (opW.bare 11 (by decide)) (opsW.cons (opW.set hy0 hy1) opsW.nil)) (by simp)
      · repeat (((refine eql_of ?_)))
        refine condP_of (fun hk => ?_) (fun hk => ?_)
        · refine c_pickE E hb (by omega) (by omega) (by omega) (fun y w2 hy0 hy1 E T => ?_)
          repeat (((refine eql_of ?_)))
          refine condP_of (fun hk => ?_) (fun hk => ?_)
          · refine c_pickE E hb (by omega) (by omega) (by omega) (fun y w2 hy0 hy1 E T => ?_)
            refine c_pickE E hb (by omega) (by omega) (by omega) (fun z w2 hz0 hz1 E T => ?_)
            refine E.ops [(11, 0), (12, 0), (1, y), (14, z)] rfl rfl rfl rfl rfl (by simp) (fun v3 w3 L3 E T h3 => ?_)
            exact fin _ _ _ _ _ E (by omega) (by omega) h3 (opsW.cons (opW.bare 11 (by decide)) (opsW.cons (opW.bare 12 (by decide)) (opsW.cons (opW.num hy0 (by omega)) (opsW.cons (opW.slot hz0 (by omega) (.inr rfl)) opsW.nil)))) (by simp)
          · refine c_pickE E hb (by omega) (by omega) (by omega) (fun y w2 hy0 hy1 E T => ?_)
            refine c_pickE E hb (by omega) (by omega) (by omega) (fun z w2 hz0 hz1 E T => ?_)
            refine E.ops [(2, y), (2, z), (6, 0), (16, 0)] rfl rfl rfl rfl rfl (by simp) (fun v3 w3 L3 E T h3 => ?_)
            exact fin _ _ _ _ _ E (by omega) (by omega) h3 (opsW.cons (opW.temp hy0 hy1) (opsW.cons (opW.temp hz0 hz1) (opsW.cons (opW.bare 6 (by decide)) (opsW.cons (opW.bare 16 (by decide)) opsW.nil)))) (by simp)
        · repeat (((refine eql_of ?_)))
          refine condP_of (fun hk => ?_) (fun hk => ?_)
          · refine c_pickE E hb (by omega) (by omega) (by omega) (fun y w2 hy0 hy1 E T => ?_)
            refine c_pickE E hb (by omega) (by omega) (by omega) (fun z w2 hz0 hz1 E T => ?_)
            refine E.ops [(2, y), (1, z), (15, 0)] rfl rfl rfl rfl rfl (by simp) (fun v3 w3 L3 E T h3 => ?_)
            refine bld_of (cs := #[.int .i64 4, .int .i64 0]) rfl ?_
            refine E.app1 (op := (4, 0)) (by kernel_rfl) h3 (by simp) (by decide) (fun v9 w9 L9 E9 T9 h9 => ?_)
            exact fin _ _ _ _ _ E9 (by omega) (by omega) h9 (opsW.add (opsW.cons (opW.temp hy0 hy1) (opsW.cons (opW.num hz0 (by omega)) (opsW.cons (opW.bare 15 (by decide)) opsW.nil))) (opW.bare 4 (by decide))) (by simp)
          · intro _
            exact j4 _ _ _
  have j1 : ∀ (b : Bool), Fspec_l71Part.j1 (.pointer (some ⟨r, 0, none⟩)) va (.int .i64 t) (.int .i64 x) (.bool b) w1 R := by
    intro b _
    refine cond_of (fun _ => ?_) (fun _ => ?_)
    · refine ha.len_of ?_
      refine c_pickE E hb (by omega) (by omega) (by omega) (fun k w2 hk0 hk1 E T => ?_)
      refine int_ix (E.en.unAny (q := []) hu (Nat.le_refl _)) hk0 hk1 (fun b o hcell => ?_)
      refine ld_of hcell ?_
      have hmem : intAt args k ∈ args := by
        unfold intAt
        rw [List.getD_eq_getElem?_getD, List.getElem?_eq_getElem (by omega : k.toNat < args.length)]
        exact List.getElem_mem _
      obtain ⟨a0, a2⟩ := haw _ hmem
      refine c_args (N := args.length) E.rd hb (by omega) (by omega) a0 a2 ht0 (fun v3 w3 M q ops D hs how hlen => ?_)
      have h5 := D.lo
      have h6 := D.hi
      obtain ⟨L3, E, T, h⟩ := E.draw 0 D hs
      refine bld_of (cs := #[.int .i64 9, .int .i64 k]) rfl ?_
      refine E.app1 (op := (9, k)) (by kernel_rfl) h (by omega) (by decide) (fun v9 w9 L9 E9 T9 h9 => ?_)
      exact tail _ _ _ _ _ E9 (by omega) (by omega) h9 (how.add (opW.call hk0 hk1)) (by simp; omega) _ _ _ _ (by kernel_rfl)
    · repeat (((refine eql_of ?_)))
      refine condP_of (fun hk => ?_) (fun hk => ?_)
      · exact j2 _
      · repeat (((refine eql_of ?_)))
        exact j2 _
  refine condP_of (fun hk => ?_) (fun hk => ?_)
  · refine c_pickE E hb (by omega) (by omega) (by omega) (fun y w2 hy0 hy1 E T => ?_)
    refine E.ops [(1, y)] rfl rfl rfl rfl rfl (by simp) (fun v3 w3 L3 E T h3 => ?_)
    exact tail _ _ _ _ _ E (by omega) (by omega) h3 (opsW.cons (opW.num hy0 (by omega)) opsW.nil) (by simp) _ _ _ _ (by kernel_rfl)
  · repeat (((refine eql_of ?_)))
    refine condP_of (fun hk => ?_) (fun hk => ?_)
    · exact j1 _
    · repeat (((refine eql_of ?_)))
      refine condP_of (fun hk => ?_) (fun hk => ?_)
      · intro _
        exact j1 _
      · repeat (((refine eql_of ?_)))
        intro _
        exact j1 _
end Go.PT

/- Drawn methods. -/
set_option linter.unusedVariables false
set_option linter.unusedSimpArgs false
set_option maxRecDepth 100000
namespace Go.PT
theorem nd_none {k : Nat → Prop} : ndT [none] 0 k := by
  intro b hb
  simp at hb
attribute [local irreducible] ldT ldsT stT stsT allocT boxT bldT bslT nilT fadT ixaT fldT extT lenT pickT binT notT cviT opT opU condT clT clvT ivT loopT arT ndT World.cell? World.frozen? World.alloc World.drew World.setCell Blk Cells Sl
theorem max_of {P : Program} {ts : Array TypeId} {t : TypeId} {x y : Int} {w : World} {k : VW} (hk : k (.int .i64 (max x y)) w) : opT P (Builtin.max_ ts t #[.int .i64 x, .int .i64 y]) w k := by
  unfold opT
  rw [run_max_int2]
  have : (if y > x then y else x) = max x y := by split <;> omega
  rw [this]
  exact hk
def SlE (s : List (Option Nat)) (z : Array Value) (l0 l : List (Nat × List Value)) : Prop := (s = [none] ∧ l = l0) ∨ ∃ b, s = [some b] ∧ l = (b, z.toList) :: l0
section
variable {r : Nat} {code : List Int} {pos pos' d : Int} {w0 w w' : World} {L L' M : Lab} {l l0 : List (Nat × List Value)}
theorem ER.ar {t : Nat} {z : Array Value} {s : List (Option Nat)} {k : World → List (Option Nat) → Prop} (E : ER r code pos w0 L w l) (hs : SlE s z l0 l) (hk : ∀ w' s' l', ER r code pos w0 L w' l' → Ext w w' → SlE s' z l0 l' → k w' s') : arT [(t, z)] w s k := by
  rcases hs with ⟨rfl, rfl⟩ | ⟨b, rfl, rfl⟩
  · refine ar_slot Slot.init (Nat.le_refl _) (fun w' s' e hs => ?_)
    rcases hs with rfl | ⟨b, rfl, hb, kb⟩
    · exact hk _ _ _ (E.ext e) e (.inl ⟨rfl, rfl⟩)
    · exact hk _ _ _ ⟨E.en.add e hb kb, E.rd.fr e, E.lab, E.lt⟩ e (.inr ⟨b, rfl, rfl⟩)
  · exact ar_some (hk _ _ _ E (Fr.refl _ _) (.inr ⟨b, rfl, rfl⟩))
theorem SlE.nd {z : Array Value} {s : List (Option Nat)} {k : Nat → Prop} (hs : SlE s z l0 l) (hk : ∀ b, s = [some b] → l = (b, z.toList) :: l0 → k b) : ndT s 0 k := by
  rcases hs with ⟨rfl, rfl⟩ | ⟨b', rfl, rfl⟩
  · exact nd_none
  · exact nd_some (hk _ rfl rfl)
end
/-- The operations of a method that is being drawn: one of them may be a jump that is not yet told where. -/
structure MI (n t skip : Int) (ops : List V) : Prop where
  at' : skip = -1 ∨ (0 ≤ skip ∧ skip < ops.length ∧ ∃ a, ops[skip.toNat]? = some (8, a))
  ok : ∀ (j : Nat) op, ops[j]? = some op → (j : Int) ≠ skip → opW n t op
theorem MI.app {n t skip : Int} {ops more : List V} (h : MI n t skip ops) (k : opsW n t more) : MI n t skip (ops ++ more) := by
  refine ⟨?_, fun j op hj hne => ?_⟩
  · rcases h.at' with h | ⟨h0, h1, a, ha⟩
    · exact .inl h
    · exact .inr ⟨h0, by rw [List.length_append]; omega, a, by rw [List.getElem?_append_left (by omega)]; exact ha⟩
  · rcases Nat.lt_or_ge j ops.length with hl | hl
    · rw [List.getElem?_append_left hl] at hj
      exact h.ok j op hj hne
    · rw [List.getElem?_append_right hl] at hj
      exact k op (List.mem_of_getElem? hj)
theorem MI.zero {n t : Int} {ops : List V} {x : Int} (h : MI n t (-1) ops) (k : opW n t (2, x)) : MI n t ((ops.length : Int) + 1) (ops ++ [(2, x), (8, 0)]) := by
  refine ⟨.inr ⟨by omega, by simp, 0, ?_⟩, fun j op hj hne => ?_⟩
  · rw [List.getElem?_append_right (by omega), show ((ops.length : Int) + 1).toNat - ops.length = 1 by omega]; rfl
  · rcases Nat.lt_or_ge j ops.length with hl | hl
    · rw [List.getElem?_append_left hl] at hj
      exact h.ok j op hj (by omega)
    · rw [List.getElem?_append_right hl] at hj
      have : j = ops.length := by
        have := (List.getElem?_eq_some_iff.mp hj).1
        simp at this; omega
      subst this
      rw [Nat.sub_self] at hj
      obtain rfl := Option.some.inj hj
      exact k
/-- What holds of a drawn method's operations. -/
def opsM (n t : Int) (ops : List V) : Prop := ∀ (p : Pg) (m : Meth), (p.length : Int) = n → m.temps = t → m.ops = ops → m.ops.all (opOk p m) = true
theorem MI.done {n t skip : Int} {ops : List V} (h : MI n t skip ops) (e1 e2 : V) (k1 : opW n t e1) (k2 : opW n t e2) (hs : skip = -1 ∨ ∃ a, ops[skip.toNat]? = some (8, a) ∧ 0 ≤ a ∧ a ≤ ops.length) : opsM n t (ops ++ [e1, e2]) := by
  intro p m hn ht hm
  rw [hm, List.all_eq_true]
  intro op hop
  obtain ⟨j, hj⟩ := List.mem_iff_getElem?.mp hop
  by_cases hne : (j : Int) = skip
  · rcases hs with hs | ⟨a, ha, h0, h1⟩
    · omega
    · rw [← hne, Int.toNat_natCast] at ha
      have hl := (List.getElem?_eq_some_iff.mp ha).1
      rw [List.getElem?_append_left hl, ha] at hj
      obtain rfl := Option.some.inj hj
      unfold opOk
      rw [hm, if_neg (by simp), if_neg (by simp), if_pos (by simp)]
      exact inB_t h0 (by rw [List.length_append]; simp; omega)
  · exact (h.app (opsW.cons k1 (opsW.cons k2 opsW.nil))).ok j op hj hne p m hn ht
def mloc (b6 b7 : Nat) (a t : Int) (v : Value) : List (Nat × List Value) := [(b7, [.int .i64 a, .int .i64 t, v]), (b6, [.int .i64 0, .int .i64 0, .slice none 0 0])]
theorem c_methEnd {r : Nat} {code : List Int} {pos a t n : Int} {w0 w : World} {L : Lab} {b6 b7 : Nat} {ops : List V} {v : Value} {skip : Int} {R : VW} (E : ER r code pos w0 L w (mloc b6 b7 a t v)) (hb : Bytes code) (hp : 0 ≤ pos) (hp' : pos ≤ 90000) (ht : 1 ≤ t) (hv : Sl kPair (Own L) w [0] ops v) (hl : ops.length ≤ 12) (hm : MI n t skip ops)
    (hs : skip = -1 ∨ ∃ a, ops[skip.toNat]? = some (8, a) ∧ 0 ≤ a ∧ a ≤ ops.length)
    (hR : ∀ v' w' L' pos' ops', ER r code pos' w0 L' w' [] → pos ≤ pos' → pos' ≤ pos + 2 → Sl kPair (Own L') w' [0] ops' v' → opsM n t ops' → ops'.length ≤ 14 → R (.agg #[.int .i64 a, .int .i64 t, v']) w') :
    Fspec_l71Method.j2 (.pointer (some ⟨r, 0, none⟩)) (.pointer (some ⟨b6, 0, none⟩)) (.pointer (some ⟨b7, 0, none⟩)) w R := by
  unfold mloc at E
  intro _
  have last : ∀ (q : Int) (v : Value) (op : V) (wz : World) (L : Lab), ER r code q w0 L wz (mloc b6 b7 a t v) → pos ≤ q → q ≤ pos + 2 → Sl kPair (Own L) wz [0] (ops ++ [op]) v → opW n t op →
      Fspec_l71Method.j3 (.pointer (some ⟨b6, 0, none⟩)) (.pointer (some ⟨b7, 0, none⟩)) wz R := by
    intro q v op wz L E hq0 hq1 h hop _
    unfold mloc at E
    (refine fad_of ?_)
    refine E.en.ld (.head _) rfl ?_
    refine bld_of (cs := #[.int .i64 10, .int .i64 0]) rfl ?_
    refine E.app1 (op := (10, 0)) (by kernel_rfl) h (by simp; omega) (by decide) (fun v9 w9 L9 E T9 h9 => ?_)
    (refine fad_of ?_)
    refine ER.st' [] E (by simp) h9.one (fun w10 E e10 => ?_)
    replace h9 := h9.loc e10
    refine E.en.lds (.head _) rfl ?_
    refine ER.sts' (vs := [.int .i64 a, .int .i64 t, v9]) [_] rfl E rfl rfl (by intro u hu; simp at hu; rcases hu with rfl | rfl | rfl <;> first | rfl | exact h9.one) (fun w11 E e11 => ?_)
    refine E.en.lds (.tail _ (.head _)) rfl ?_
    refine hR v9 _ _ _ _ E.pop.pop hq0 hq1 (h9.loc e11) ?_ (by simp; omega)
    rw [List.append_assoc]
    exact hm.done op (10, 0) hop (opW.bare 10 (by decide)) hs
  refine c_pickE E hb (by omega) (by omega) (by omega) (fun x w2 hx0 hx1 E T => ?_)
  replace hv := hv.tr T (by decide)
  repeat (((refine eql_of ?_)))
  refine condP_of (fun hk => ?_) (fun hk => ?_)
  · (refine fad_of ?_)
    refine E.en.ld (.head _) rfl ?_
    refine bld_of (cs := #[.int .i64 11, .int .i64 0]) rfl ?_
    refine E.app1 (op := (11, 0)) (by kernel_rfl) hv (by omega) (by decide) (fun v9 w9 L9 E T9 h9 => ?_)
    (refine fad_of ?_)
    refine ER.st' [] E (by simp) h9.one (fun w10 E e10 => ?_)
    exact last _ v9 _ _ _ E (by omega) (by omega) (h9.loc e10) (opW.bare 11 (by decide))
  · replace E := E.drew
    replace hv := hv.drewX
    (refine fad_of ?_)
    refine E.en.ld (.head _) rfl ?_
    (refine fad_of ?_)
    refine E.en.ld (.head _) rfl ?_
    refine c_pickE E hb (by omega) (by omega) (by omega) (fun y w3 hy0 hy1 E T => ?_)
    replace hv := hv.tr T (by decide)
    refine ⟨E.en.ld (.head _) rfl rfl, ?_⟩
    refine bld_of (cs := #[.int .i64 2, .int .i64 y]) rfl ?_
    refine E.bsl rfl rfl rfl (fun b2 w4 E2 e2 => ?_)
    refine ⟨E2.en.ld (.tail _ (.head _)) rfl rfl, ?_⟩
    refine grow_lit [((2, y) : V)] (by kernel_rfl) (hv.keepX e2) (E2.en.blk (.head _)) rfl (by simp; omega) E2.en.mu.lim (fun v9 w9 L9 g9 _ h9 => ?_)
    replace E := E2.pop.grow g9 (by decide)
    (refine fad_of ?_)
    refine ER.st' [] E (by simp) h9.one (fun w10 E e10 => ?_)
    exact last _ v9 _ _ _ E (by omega) (by omega) (h9.loc e10) (opW.temp hy0 hy1)
theorem c_methLoop {r : Nat} {code : List Int} {pos a t : Int} {w0 w : World} {L : Lab} {b6 b7 : Nat} {v va : Value} {args : List Int} {R : VW} (E : ER r code pos w0 L w (mloc b6 b7 a t v)) (hb : Bytes code) (hp : 0 ≤ pos) (hp' : pos ≤ 70000) (ht : 1 ≤ t) (hv : Sl kPair (Own L) w [0] [] v)
    (hu : Sl kInt (Un (labR r) w0.heap.size) w0 [] args va) (ha1 : 1 ≤ args.length) (ha2 : args.length ≤ 1000) (haw : ∀ x ∈ args, 0 ≤ x ∧ x ≤ 2)
    (hR : ∀ v' w' L' pos' ops', ER r code pos' w0 L' w' [] → pos ≤ pos' → pos' ≤ pos + 60 → Sl kPair (Own L') w' [0] ops' v' → opsM args.length t ops' → ops'.length ≤ 14 → R (.agg #[.int .i64 a, .int .i64 t, v']) w') :
    loopT (fun s w Kn Kb Kr => Fspec_l71Method.l1 (s.headD undef) (s.tail.headD undef) (s.tail.tail.headD undef) (s.tail.tail.tail.headD undef) (s.tail.tail.tail.tail.headD undef) (s.tail.tail.tail.tail.tail.headD undef) w Kn Kb Kr) [.pointer (some ⟨r, 0, none⟩), va, .pointer (some ⟨b6, 0, none⟩), .pointer (some ⟨b7, 0, none⟩), .int .i64 (-1), .int .i64 0] w (fun s w => Fspec_l71Method.k2 (s.headD undef) (s.tail.headD undef) (s.tail.tail.headD undef) (s.tail.tail.tail.headD undef) (s.tail.tail.tail.tail.headD undef) (s.tail.tail.tail.tail.tail.headD undef) w R) (fun s w => Fspec_l71Method.r3 (s.headD undef) (s.tail.headD undef) (s.tail.tail.headD undef) (s.tail.tail.tail.headD undef) (s.tail.tail.tail.tail.headD undef) (s.tail.tail.tail.tail.tail.headD undef) w R) := by
  refine loop_of (fun m s wx => ∃ (i : Nat) (skip : Int) (ops : List V) (v : Value) (L : Lab) (q : Int), s = [.pointer (some ⟨r, 0, none⟩), va, .pointer (some ⟨b6, 0, none⟩), .pointer (some ⟨b7, 0, none⟩), .int .i64 skip, .int .i64 i] ∧ i + m = 4 ∧ pos ≤ q ∧ q ≤ pos + 12 * i ∧
    ER r code q w0 L wx (mloc b6 b7 a t v) ∧ Sl kPair (Own L) wx [0] ops v ∧ MI args.length t skip ops ∧ ops.length ≤ 12) ?_ (m := 4)
    ⟨0, -1, [], v, L, pos, rfl, rfl, by omega, by omega, E, hv, ⟨.inl rfl, by simp⟩, by simp⟩
  clear E hv
  rintro m s wx Kn ⟨i, skip, ops, v, L, q, rfl, hi, hq0, hq1, E, hv, hM, hl⟩ hKn
  intro _
  simp only [List.headD_cons, List.tail_cons]
  unfold mloc at E
  repeat (((refine lss_of ?_)))
  refine condLt_of (fun hc => ?_) (fun hc => ?_)
  · (refine fad_of ?_)
    refine E.en.ld (.head _) rfl ?_
    have hu' := E.en.un hu (Nat.le_refl _)
    have hsz := E.en.size
    refine c_part E.rd hb (by omega) (by omega) ht (hu'.unAny hsz) (hu'.frame (fun r' b m' hbb => ⟨fun o v hc => hc, labR_none (fun e => by have h1 := hbb.1; rw [e, E.lab] at h1; cases h1), Nat.lt_of_lt_of_le hbb.2 hsz⟩)) ha1 ha2 haw (fun v2 w2 M q2 more D hs how hmore => ?_)
    have h5 := D.lo
    have h6 := D.hi
    obtain ⟨L2, E2, T, h2⟩ := E.draw 1 D hs
    clear E
    have E := E2
    clear E2
    replace hv := hv.tr T (by decide)
    have j1 : ∀ (q' skip' : Int) (ops' : List V) (v : Value) (wz : World) (L : Lab), ER r code q' w0 L wz (mloc b6 b7 a t v) → pos ≤ q' → q' ≤ pos + 12 * (i + 1) → Sl kPair (Own L) wz [0] ops' v → Sl kPair (Own L) wz [1] more v2 → MI args.length t skip' ops' → ops'.length ≤ 12 → (skip' = skip ∨ ops'.length + more.length ≤ 12) →
        Fspec_l71Method.j1 (.pointer (some ⟨r, 0, none⟩)) va (.pointer (some ⟨b6, 0, none⟩)) (.pointer (some ⟨b7, 0, none⟩)) (.int .i64 skip') (.int .i64 i) v2 wz Kn (fun s w => Fspec_l71Method.k2 (s.headD undef) (s.tail.headD undef) (s.tail.tail.headD undef) (s.tail.tail.tail.headD undef) (s.tail.tail.tail.tail.headD undef) (s.tail.tail.tail.tail.tail.headD undef) w R) (fun s w => Fspec_l71Method.r3 (s.headD undef) (s.tail.headD undef) (s.tail.tail.headD undef) (s.tail.tail.tail.headD undef) (s.tail.tail.tail.tail.headD undef) (s.tail.tail.tail.tail.tail.headD undef) w R) := by
      intro q' skip' ops' v wz L E hq0' hq1' hv h2 hM hl' _ _
      unfold mloc at E
      (refine fad_of ?_)
      refine E.en.ld (.head _) rfl ?_
      refine hv.len_of ?_
      refine h2.len_of ?_
      (refine add_of (by (omega)) (by (omega)) ?_)
      (refine leq_of ?_)
      refine condP_of (fun hk => ?_) (fun hk => ?_)
      · (refine fad_of ?_)
        refine E.en.ld (.head _) rfl ?_
        refine grow_row (by kernel_rfl) hv h2 (by omega) E.en.mu.lim (fun v9 w9 L9 g9 _ h9 => ?_)
        replace E := E.grow g9 (by decide)
        (refine fad_of ?_)
        refine ER.st' [] E (by simp) h9.one (fun w10 E e10 => ?_)
        (refine add_of (by (omega)) (by (omega)) ?_)
        exact hKn (m - 1) _ _ (by omega) ⟨i + 1, skip', ops' ++ more, v9, L9, q', rfl, by omega, by omega, by omega, E, h9.loc e10, hM.app how, by rw [List.length_append]; omega⟩
      · (refine add_of (by (omega)) (by (omega)) ?_)
        exact hKn (m - 1) _ _ (by omega) ⟨i + 1, skip', ops', v, L, q', rfl, by omega, by omega, by omega, E, hv, hM, hl'⟩
    (refine lss_of ?_)
    refine condP_of (fun hk => ?_) (fun hk => ?_)
    · have hs1 : skip = -1 := by rcases hM.at' with h | ⟨h, _⟩ <;> omega
      subst hs1
      refine c_pickE E hb (by omega) (by omega) (by omega) (fun x w3 hx0 hx1 E T => ?_)
      replace hv := hv.tr T (by decide)
      replace h2 := h2.tr T (by decide)
      (refine eql_of ?_)
      refine condP_of (fun hk => ?_) (fun hk => ?_)
      · (refine fad_of ?_)
        refine E.en.ld (.head _) rfl ?_
        refine hv.len_of ?_
        refine h2.len_of ?_
        (refine add_of (by (omega)) (by (omega)) ?_)
        (refine leq_of ?_)
        refine condP_of (fun hk => ?_) (fun hk => ?_)
        · (refine fad_of ?_)
          refine E.en.ld (.head _) rfl ?_
          refine hv.len_of ?_
          (refine add_of (by (omega)) (by (omega)) ?_)
          replace E := E.drew
          replace hv := hv.drewX
          replace h2 := h2.drewX
          (refine fad_of ?_)
          refine E.en.ld (.head _) rfl ?_
          (refine fad_of ?_)
          refine E.en.ld (.head _) rfl ?_
          refine bld_of (cs := #[.int .i64 8, .int .i64 0]) rfl ?_
          refine c_pickE E hb (by omega) (by omega) (by omega) (fun y w3 hy0 hy1 E T => ?_)
          replace hv := hv.tr T (by decide)
          replace h2 := h2.tr T (by decide)
          refine ⟨E.en.ld (.head _) rfl rfl, ?_⟩
          refine bld_of (cs := #[.int .i64 2, .int .i64 y]) rfl ?_
          have E1 := E.en.mu.lim
          refine E.bsl rfl rfl rfl (fun b2 w4 E2 e2 => ?_)
          refine ⟨E2.en.ld (.tail _ (.head _)) rfl rfl, ?_⟩
          refine grow_lit [((2, y) : V), (8, 0)] (by kernel_rfl) (hv.keepX e2) (E2.en.blk (.head _)) rfl (by simp; omega) E2.en.mu.lim (fun v9 w9 L9 g9 _ h9 => ?_)
          clear E
          have E := E2.pop.grow g9 (by decide)
          replace h2 := h2.kp (kp_of e2 g9 E1) (by decide)
          (refine fad_of ?_)
          refine ER.st' [] E (by simp) h9.one (fun w10 E e10 => ?_)
          exact j1 _ _ _ _ _ _ E (by omega) (by omega) (h9.loc e10) (h2.loc e10) (hM.zero (opW.temp hy0 hy1)) (by simp; omega) (.inr (by simp; omega))
        · exact j1 _ _ _ _ _ _ E (by omega) (by omega) hv h2 hM hl (.inl rfl)
      · exact j1 _ _ _ _ _ _ E (by omega) (by omega) hv h2 hM hl (.inl rfl)
    · exact j1 _ _ _ _ _ _ E (by omega) (by omega) hv h2 hM hl (.inl rfl)
  · intro _
    have e4 : i = 4 := by omega
    subst e4
    (refine geq_of ?_)
    have fin : ∀ (v' : Value) (w' : World) (L' : Lab) (pos' : Int) (ops' : List V), ER r code pos' w0 L' w' [] → q ≤ pos' → pos' ≤ q + 2 → Sl kPair (Own L') w' [0] ops' v' → opsM args.length t ops' → ops'.length ≤ 14 → R (.agg #[.int .i64 a, .int .i64 t, v']) w' :=
      fun v' w' L' pos' ops' E' h1 h2 h3 h4 h5 => hR v' w' L' pos' ops' E' (by omega) (by omega) h3 h4 h5
    refine condP_of (fun hk => ?_) (fun hk => ?_)
    · obtain ⟨k0, k1, aa, k2⟩ := hM.at'.resolve_left (by omega)
      (refine fad_of ?_)
      refine E.en.ld (.head _) rfl ?_
      (refine fad_of ?_)
      refine E.en.ld (.head _) rfl ?_
      refine hv.len_of ?_
      refine hv.ixo_of rfl k0 k1 (fun x b o es mm hx hat ho hK hc => ?_)
      rw [hx] at k2
      obtain rfl := Option.some.inj k2
      have hes : es = [.int .i64 8, .int .i64 aa] := hK
      subst hes
      (refine fad_of ?_)
      obtain ⟨hlab, w', a1, a2, a3, a4⟩ := hv.puts (vs := [.int .i64 ops.length]) (off := 1) hat (by omega) (by simp [kPair, Kd.flat]) (by simp [Value.oneCell'])
      refine st_of_stN a1 ?_
      have h9 := a4 (8, (ops.length : Int)) (fun es k1 k2 => by
        have hx' : ops[skip.toNat]'(by omega) = (8, aa) := by
          rw [List.getElem?_eq_getElem (by omega)] at hx; exact Option.some.inj hx
        have : es = [.int .i64 8, .int .i64 aa] := by rw [hx'] at k1; exact k1
        subst this
        rfl)
      replace E := E.wr hlab (by decide) a2
      refine c_methEnd (skip := skip) E hb (by omega) (by omega) ht h9 (by simpa using hl) ⟨.inr ⟨k0, by simpa using k1, _, by rw [List.getElem?_set, if_pos rfl, if_pos (by omega)]⟩, fun j op hj hne => ?_⟩ (.inr ⟨_, by rw [List.getElem?_set, if_pos rfl, if_pos (by omega)], by omega, by simp⟩) fin
      rw [List.getElem?_set, if_neg (by omega)] at hj
      exact hM.ok j op hj hne
    · have hs1 : skip = -1 := by rcases hM.at' with h | ⟨h, _⟩ <;> omega
      exact c_methEnd E hb (by omega) (by omega) ht hv hl hM (.inl hs1) fin
/-- What holds of a drawn method. -/
structure MethW (n : Int) (m : Meth) : Prop where
  a0 : 0 ≤ m.args
  a2 : m.args ≤ 2
  t1 : m.args ≤ m.temps
  t2 : m.temps ≤ 4
  ops : m.ops.length ≤ 14
  ok : opsM n m.temps m.ops
theorem MethW.methOk {p : Pg} {m : Meth} (h : MethW p.length m) : methOk p m = true := by
  unfold Go.PT.methOk
  rw [inB_t h.a0 h.a2, inB_t h.t1 h.t2, h.ok p m rfl rfl rfl]
  have := h.ops
  simp; omega
theorem c_method {r : Nat} {code : List Int} {pos k : Int} {args : List Int} {va : Value} {w : World} {R : VW} (hrd : Rd w r code pos) (hb : Bytes code) (hp : 0 ≤ pos) (hp' : pos ≤ 60000)
    (hu : Sl kInt (Un (labR r) w.heap.size) w [] args va) (hk0 : 0 ≤ k) (hk1 : k < args.length) (ha2 : args.length ≤ 1000) (haw : ∀ x ∈ args, 0 ≤ x ∧ x ≤ 2)
    (hR : ∀ v w' M pos' m, Dn r code pos 70 w w' M pos' → Sl kPair (Own M) w' [] m.ops v → m.args = intAt args k → MethW args.length m → R (.agg #[.int .i64 m.args, .int .i64 m.temps, v]) w') :
    clT PR 230 [.pointer (some ⟨r, 0, none⟩), va, .int .i64 k] w R := by
  refine Fspec_l71Method.cl ?_
  unfold Fspec_l71Method
  have E := ER.init hrd
  refine E.al (fun b6 w1 E e1 => ?_)
  replace E := E.drew
  have hmem : intAt args k ∈ args := by
    unfold intAt
    rw [List.getD_eq_getElem?_getD, List.getElem?_eq_getElem (by omega : k.toNat < args.length)]
    exact List.getElem_mem _
  obtain ⟨a0, a2⟩ := haw _ hmem
  have hlen0 : 1 ≤ args.length := by omega
  have hix : ∀ {wz : World} {L : Lab} {q : Int} {l : List (Nat × List Value)} {kk : Value → Prop}, ER r code q w L wz l → (∀ b o, b ≠ r → wz.cell? ⟨b, o, none⟩ = some (.int .i64 (intAt args k)) → kk (.pointer (some ⟨b, o, none⟩))) → ixaT 1 va (.int .i64 k) kk := by
    intro wz L q l kk E hk
    refine (E.en.un hu (Nat.le_refl _)).ixo_of rfl hk0 hk1 (fun x b o es m hx hat ho hK hc => ?_)
    have hes : es = [.int .i64 x] := hK
    subst hes
    have e : intAt args k = x := intAt_of hx
    refine hk b o (fun e => by have h1 := ho.1; rw [e, E.lab] at h1; cases h1) ?_
    rw [e]; simpa using hc.at 0 rfl
  refine hix E (fun b o hne hc => ?_)
  refine ld_of hc ?_
  refine hix E (fun b' o' hne' hc' => ?_)
  refine ld_of hc' ?_
  have s0 : SlE [none] #[.int .i64 0, .int .i64 0, .slice none 0 0] [(b6, [.int .i64 0, .int .i64 0, .slice none 0 0])] [(b6, [.int .i64 0, .int .i64 0, .slice none 0 0])] := .inl ⟨rfl, rfl⟩
  have fin : ∀ (s : List (Option Nat)) (l : List (Nat × List Value)) (wz : World) (q x : Int) (bb ty : Nat), SlE s #[.int .i64 0, .int .i64 0, .slice none 0 0] [(b6, [.int .i64 0, .int .i64 0, .slice none 0 0])] l → ER r code q w (labR r) wz l → pos ≤ q → q ≤ pos + 1 → 0 ≤ x → x ≤ 2 →
      ndT s 0 fun b13 => stsT 3 (.pointer (some ⟨b13, 0, none⟩)) (.agg #[.int .i64 (intAt args k), .int .i64 (max (intAt args k) (1 + x)), .slice (some ⟨bb, 0, none⟩) 0 0]) wz fun w14 =>
      arT [(ty, #[.int .i64 0, .int .i64 0, .slice none 0 0])] w14 s fun w15 s16 => ndT s16 0 fun b17 =>
      loopT (fun s w Kn Kb Kr => Fspec_l71Method.l1 (s.headD undef) (s.tail.headD undef) (s.tail.tail.headD undef) (s.tail.tail.tail.headD undef) (s.tail.tail.tail.tail.headD undef) (s.tail.tail.tail.tail.tail.headD undef) w Kn Kb Kr) [.pointer (some ⟨r, 0, none⟩), va, .pointer (some ⟨b6, 0, none⟩), .pointer (some ⟨b17, 0, none⟩), .int .i64 (-1), .int .i64 0] w15 (fun s w => Fspec_l71Method.k2 (s.headD undef) (s.tail.headD undef) (s.tail.tail.headD undef) (s.tail.tail.tail.headD undef) (s.tail.tail.tail.tail.headD undef) (s.tail.tail.tail.tail.tail.headD undef) w R) (fun s w => Fspec_l71Method.r3 (s.headD undef) (s.tail.headD undef) (s.tail.tail.headD undef) (s.tail.tail.tail.headD undef) (s.tail.tail.tail.tail.headD undef) (s.tail.tail.tail.tail.tail.headD undef) w R) := by
    intro s l wz q x bb ty hs E hq0 hq1 hx0 hx1
    refine hs.nd (fun b13 h1 h2 => ?_)
    subst h1 h2
    refine ER.sts' (vs := [.int .i64 (intAt args k), .int .i64 (max (intAt args k) (1 + x)), .slice (some ⟨bb, 0, none⟩) 0 0]) [] rfl E rfl rfl (by simp [Value.oneCell']) (fun w3 E3 e3 => ?_)
    refine ar_some ?_
    refine nd_some ?_
    refine c_methLoop (a := intAt args k) (t := max (intAt args k) (1 + x)) E3 hb (by omega) (by omega) (by omega) Sl.none0 hu hlen0 ha2 haw (fun v' w' L' pos' ops' E' h1 h2 h3 h4 h5 => ?_)
    exact hR v' w' _ pos' ⟨intAt args k, max (intAt args k) (1 + x), ops'⟩ (E'.done 0 (by omega) (by omega) (by decide)) h3.sub rfl ⟨a0, a2, by simp only; omega, by simp only; omega, h5, h4⟩
  refine E.ar s0 (fun w2 s3 l3 E e2 hs3 => ?_)
  refine ⟨?_, ?_⟩
  · replace hc := Ext.cell e2 hc
    replace hc' := Ext.cell e2 hc'
    refine c_pickE E hb (by omega) (by omega) (by omega) (fun x w4 hx0 hx1 E T => ?_)
    replace hc := T.fr.cell hne hc
    replace hc' := T.fr.cell hne' hc'
    refine ⟨ld_of hc' rfl, ld_of hc rfl, ?_⟩
    (refine add_of (by (omega)) (by (omega)) ?_)
    refine E.ar hs3 (fun w5 s6 l6 E e5 hs6 => ?_)
    replace hc := Ext.cell e5 hc
    replace hc' := Ext.cell e5 hc'
    refine ⟨?_, ?_⟩
    · refine max_of ?_
      refine ⟨ld_of hc rfl, ?_⟩
      refine E.ar hs6 (fun w8 s9 l9 E e8 hs9 => ?_)
      replace hc := Ext.cell e8 hc
      replace hc' := Ext.cell e8 hc'
      refine E.bsl rfl rfl rfl (fun bb w10 E e10 => ?_)
      replace E := E.pop
      replace hc := Ext.cell e10 hc
      replace hc' := Ext.cell e10 hc'
      refine ⟨ld_of hc' rfl, ld_of hc rfl, ?_⟩
      refine bld_of (cs := #[.int .i64 (intAt args k), .int .i64 (max (intAt args k) (1 + x)), .slice (some ⟨bb, 0, none⟩) 0 0]) rfl ?_
      refine E.ar hs9 (fun w11 s12 l12 E e11 hs12 => ?_)
      exact fin _ _ _ _ _ _ _ hs12 E (by omega) (by omega) hx0 (by omega)
    · refine E.bsl rfl rfl rfl (fun bb w10 E e10 => ?_)
      replace E := E.pop
      replace hc := Ext.cell e10 hc
      replace hc' := Ext.cell e10 hc'
      refine ⟨ld_of hc' rfl, ld_of hc rfl, ?_⟩
      refine E.ar hs6 (fun w8 s9 l9 E e8 hs9 => ?_)
      replace hc := Ext.cell e8 hc
      refine max_of ?_
      refine ⟨ld_of hc rfl, ?_⟩
      refine bld_of (cs := #[.int .i64 (intAt args k), .int .i64 (max (intAt args k) (1 + x)), .slice (some ⟨bb, 0, none⟩) 0 0]) rfl ?_
      refine E.ar hs9 (fun w11 s12 l12 E e11 hs12 => ?_)
      exact fin _ _ _ _ _ _ _ hs12 E (by omega) (by omega) hx0 (by omega)
  · replace hc := Ext.cell e2 hc
    replace hc' := Ext.cell e2 hc'
    refine E.bsl rfl rfl rfl (fun bb w10 E e10 => ?_)
    replace E := E.pop
    replace hc := Ext.cell e10 hc
    replace hc' := Ext.cell e10 hc'
    refine ⟨ld_of hc' rfl, ld_of hc rfl, ?_⟩
    refine E.ar hs3 (fun w5 s6 l6 E e5 hs6 => ?_)
    replace hc := Ext.cell e5 hc
    replace hc' := Ext.cell e5 hc'
    refine c_pickE E hb (by omega) (by omega) (by omega) (fun x w4 hx0 hx1 E T => ?_)
    replace hc := T.fr.cell hne hc
    replace hc' := T.fr.cell hne' hc'
    refine ⟨ld_of hc' rfl, ld_of hc rfl, ?_⟩
    (refine add_of (by (omega)) (by (omega)) ?_)
    refine E.ar hs6 (fun w8 s9 l9 E e8 hs9 => ?_)
    replace hc := Ext.cell e8 hc
    refine max_of ?_
    refine ⟨ld_of hc rfl, ?_⟩
    refine bld_of (cs := #[.int .i64 (intAt args k), .int .i64 (max (intAt args k) (1 + x)), .slice (some ⟨bb, 0, none⟩) 0 0]) rfl ?_
    refine E.ar hs9 (fun w11 s12 l12 E e11 hs12 => ?_)
    exact fin _ _ _ _ _ _ _ hs12 E (by omega) (by omega) hx0 (by omega)
end Go.PT

/- Drawn programs. -/
set_option linter.unusedVariables false
set_option linter.unusedSimpArgs false
set_option maxRecDepth 100000
namespace Go.PT
variable {α : Type}
theorem own_lab1 {w : World} {b m : Nat} {p : List Nat} {cs : List Value} (h : Blk w b cs) (hm : m ≤ cs.length) : Own (lab1 b p) w p b m := by
  obtain ⟨t, h⟩ := h
  exact ⟨by unfold lab1; simp, _, t, h, by simpa using hm⟩
theorem Sl.ownUn {kd : Kd α} {r i : Nat} {p q : List Nat} {L : Lab} {w : World} {xs : List α} {v : Value} (h : Sl kd (Own L) w (i :: q) xs v) (hi : i ≠ 9) (hr : L r = some [9]) : Sl kd (Un (labR r) w.heap.size) w p xs v :=
  h.frame (fun s b m hb => ⟨fun o v hc => hc, labR_none (fun e => by have h1 := hb.1; rw [e, hr] at h1; simp at h1; exact hi h1.1.symm), own_lt hb⟩)
attribute [local irreducible] ldT ldsT stT stsT allocT boxT bldT bslT nilT fadT ixaT fldT extT lenT pickT binT notT cviT opT opU condT clT clvT ivT loopT arT ndT World.cell? World.frozen? World.alloc World.drew World.setCell Blk Cells Sl
theorem c_prog {r : Nat} {code : List Int} {pos : Int} {w : World} {R : VW} (hrd : Rd w r code pos) (hb : Bytes code) (hp : 0 ≤ pos) (hp' : pos ≤ 50000)
    (hR : ∀ v w' M pos' p, Dn r code pos 400 w w' M pos' → Sl kMeth (Own M) w' [] p v → progOk p = true → p.length ≤ 4 → R (.agg #[v]) w') : clT PR 170 [.pointer (some ⟨r, 0, none⟩)] w R := by
  refine Fspec_l71Prog.cl ?_
  unfold Fspec_l71Prog
  have E := ER.init hrd
  refine E.al (fun b2 w1 E e1 => ?_)
  refine bsl_of' rfl rfl rfl (fun b7 w2 e2 hb7 (k7 : Blk w2 b7 [.int .i64 0]) => ?_)
  obtain ⟨L2, E2, T2, ha⟩ := E.made (kd := kInt) (xs := [0]) (v := .slice (some ⟨b7, 0, none⟩) 1 1) 1 e2 (lab1_born (p := []) hb7) (lab1_lim k7.lt) (sl_flat (rest := []) (by simpa using k7) rfl (Nat.le_refl _) (own_lab1 k7 (Nat.le_refl _)))
  clear E
  have E := E2
  clear E2
  refine c_pickE E hb (by omega) (by omega) (by omega) (fun x w3 hx0 hx1 E T => ?_)
  replace ha := ha.tr T (by decide)
  (refine add_of (by (omega)) (by (omega)) ?_)
  obtain ⟨n, rfl⟩ := Int.eq_ofNat_of_zero_le hx0
  have hn : (1 : Int) + (n : Int) = ((n + 1 : Nat) : Int) := by omega
  rw [hn]
  refine loop_of (fun m s wx => ∃ (args : List Int) (va : Value) (L : Lab) (q : Int), s = [.pointer (some ⟨r, 0, none⟩), .pointer (some ⟨b2, 0, none⟩), va, .int .i64 m] ∧ args.length + m ≤ 4 ∧ args[0]? = some 0 ∧ (∀ x ∈ args, 0 ≤ x ∧ x ≤ 2) ∧ pos ≤ q ∧ q + 4 * m ≤ pos + 20 ∧
    ER r code q w L wx [(b2, [.slice none 0 0])] ∧ Sl kInt (Own L) wx [1] args va) ?_ (m := n + 1)
    ⟨[0], _, L2, pos + 1, rfl, by simp; omega, rfl, by simp, by omega, by omega, E, ha⟩
  clear E ha
  rintro m s wx Kn ⟨args, va, L, q, rfl, hal, h0, haw, hq0, hq1, E, ha⟩ hKn
  intro _
  simp only [List.headD_cons, List.tail_cons]
  (refine gtr_of ?_)
  refine condP_of (fun hc => ?_) (fun hc => ?_)
  · refine c_pickE E hb (by omega) (by omega) (by omega) (fun x w3 hx0 hx1 E T => ?_)
    replace ha := ha.tr T (by decide)
    refine E.bsl rfl rfl rfl (fun b4 w4 E e4 => ?_)
    refine grow_lit [x] (by kernel_rfl) (ha.keepX e4) (E.en.blk (.head _)) rfl (by simp; omega) E.en.mu.lim (fun v9 w9 L9 g9 _ h9 => ?_)
    have E := E.pop.grow g9 (by decide)
    (refine sub_of (by (omega)) (by (omega)) ?_)
    refine hKn (m - 1) _ _ (by omega) ⟨args ++ [x], v9, L9, q + 1, by rw [show ((m - 1 : Nat) : Int) = (m : Int) - 1 by omega], by simp; omega, ?_, ?_, by omega, by omega, E, h9⟩
    · rw [List.getElem?_append_left]
      · exact h0
      · exact (List.getElem?_eq_some_iff.mp h0).1
    · intro y hy
      rcases List.mem_append.mp hy with hy | hy
      · exact haw y hy
      · rw [List.mem_singleton.mp hy]; omega
  · intro _
    have hm0 : m = 0 := by omega
    subst hm0
    have hal1 : 1 ≤ args.length := (List.getElem?_eq_some_iff.mp h0).1
    refine bld_of (cs := #[.slice none 0 0]) rfl ?_
    refine E.al (fun b5 w5 E e5 => ?_)
    replace ha := ha.keepX e5
    refine ER.sts' (vs := [.slice none 0 0]) [] rfl E rfl rfl (by simp [Value.oneCell']) (fun w6 E e6 => ?_)
    replace ha := ha.loc e6
    refine loop_of (fun m s wx => ∃ (i : Nat) (ms : List Meth) (v : Value) (L : Lab) (q : Int), s = [.pointer (some ⟨r, 0, none⟩), .pointer (some ⟨b2, 0, none⟩), va, .pointer (some ⟨b5, 0, none⟩), .int .i64 i] ∧ i + m = args.length ∧ ms.length = i ∧ (∀ x ∈ ms, MethW args.length x) ∧
      (∀ x, ms[0]? = some x → x.args = 0) ∧ pos ≤ q ∧ q ≤ pos + 20 + 70 * i ∧ ER r code q w L wx [(b5, [v]), (b2, [.slice none 0 0])] ∧ Sl kInt (Own L) wx [1] args va ∧ Sl kMeth (Own L) wx [0] ms v) ?_ (m := args.length)
      ⟨0, [], .slice none 0 0, L, q, rfl, by omega, rfl, by simp, by simp, by omega, by omega, E, ha, Sl.none0⟩
    clear E ha
    rintro m s wx Kn ⟨i, ms, v, L, q, rfl, hi, hml, hmw, hm0, hq0, hq1, E, ha, hv⟩ hKn
    intro _
    simp only [List.headD_cons, List.tail_cons]
    refine ha.len_of ?_
    (refine lss_of ?_)
    refine condLt_of (fun hc => ?_) (fun hc => ?_)
    · replace E := E.drew
      replace ha := ha.drewX
      replace hv := hv.drewX
      (refine fad_of ?_)
      refine E.en.ld (.head _) rfl ?_
      refine c_method E.rd hb (by omega) (by omega) (ha.ownUn (by decide) E.lab) (by omega) (by omega) (by omega) haw (fun vo w9 M q9 mt D hs hma hmt => ?_)
      have h5 := D.lo
      have h6 := D.hi
      obtain ⟨E9, T9⟩ := E.take [0, i, 2] D
      have ho := hs.inR (q := [0, i, 2]) (E.apart D)
      clear E
      have E := E9
      clear E9
      replace ha := ha.tr T9 (by decide)
      replace hv := hv.tr T9 (by decide)
      refine ⟨E.en.ld (.head _) rfl rfl, ?_⟩
      have hlim := E.en.mu.lim
      refine E.bsl rfl rfl rfl (fun b10 w10 E e10 => ?_)
      refine ⟨E.en.ld (.tail _ (.head _)) rfl rfl, ?_⟩
      refine grow_one (kd := kMeth) mt (by kernel_rfl) (hv.keepX e10) (E.en.blk (.head _)) ⟨vo, rfl, by rw [hml]; exact ho.keepX e10⟩ rfl (by omega) E.en.mu.lim (fun v9 w11 L11 g11 _ h11 => ?_)
      have E := E.pop.grow g11 (by decide)
      replace ha := ha.kp (kp_of e10 g11 hlim) (by decide)
      (refine fad_of ?_)
      refine ER.st' [] E (by simp) h11.one (fun w12 E e12 => ?_)
      (refine add_of (by (omega)) (by (omega)) ?_)
      refine hKn (m - 1) _ _ (by omega) ⟨i + 1, ms ++ [mt], v9, L11, q9, rfl, by omega, by simp [hml], ?_, ?_, by omega, by omega, E, ha.loc e12, h11.loc e12⟩
      · intro y hy
        rcases List.mem_append.mp hy with hy | hy
        · exact hmw y hy
        · rw [List.mem_singleton.mp hy]; exact hmt
      · intro y hy
        cases ms with
        | nil =>
          have : mt = y := by simpa using hy
          subst this
          have hi0 : i = 0 := by simpa using hml.symm
          subst hi0
          rw [hma]
          exact intAt_of h0
        | cons z zs => exact hm0 y (by simpa using hy)
    · intro _
      have hm0' : m = 0 := by omega
      refine E.en.lds (.head _) rfl ?_
      refine ER.sts' (vs := [v]) [_] rfl E rfl rfl (by intro u hu; simp at hu; subst hu; exact hv.one) (fun w12 E e12 => ?_)
      replace hv := hv.loc e12
      refine E.en.lds (.tail _ (.head _)) rfl ?_
      have hlen : ms.length = args.length := by omega
      refine hR _ _ _ q ms (E.done 0 (by omega) (by omega) (by decide)) hv.sub ?_ (by omega)
      unfold progOk
      rw [inB_t (by omega) (by omega), Bool.true_and, Bool.and_eq_true]
      constructor
      · rw [decide_eq_true_eq]
        have hg : ms[0]? = some ms[0] := List.getElem?_eq_getElem (by omega)
        have : methAt ms 0 = ms[0] := methAt_of hg
        rw [this]
        exact hm0 _ hg
      · rw [List.all_eq_true]
        intro y hy
        have := hmw y hy
        rw [← hlen] at this
        exact this.methOk
end Go.PT

/- Drawn heaps. -/
set_option linter.unusedVariables false
set_option linter.unusedSimpArgs false
set_option maxRecDepth 100000
namespace Go.PT
variable {α : Type}
/-- Data off the reader. -/
def Nr (r n : Nat) : Ok := fun w _ b _ => b ≠ r ∧ n ≤ b ∧ b < w.heap.size
/-- Data in blocks of one's own, but for the reader. -/
def Lb (L : Lab) : Ok := fun w _ b _ => L b ≠ none ∧ L b ≠ some [9] ∧ b < w.heap.size
theorem free_lb (L : Lab) : Free (Lb L) := fun _ _ _ _ _ _ h => h
theorem Sl.lb {kd : Kd α} {L : Lab} {w : World} {i : Nat} {q p : List Nat} {xs : List α} {v : Value} (h : Sl kd (Own L) w (i :: q) xs v) (hi : i ≠ 9) : Sl kd (Lb L) w p xs v :=
  h.frame (fun s b m hb => ⟨fun o v hc => hc, by rw [hb.1]; simp, by rw [hb.1]; simp; intro e; exact absurd e hi, own_lt hb⟩)
theorem Sl.lbLoc {kd : Kd α} {L : Lab} {w w' : World} {p : List Nat} {xs : List α} {v : Value} {b : Nat} (h : Sl kd (Lb L) w p xs v) (e : Loc L w w' b) : Sl kd (Lb L) w' p xs v :=
  h.frame (fun s x m hb => ⟨fun o v hc => e.fr.cell (fun he => hb.1 (by rw [he]; exact e.un)) hc, hb.1, hb.2.1, Nat.lt_of_lt_of_le hb.2.2 e.fr.size⟩)
theorem Sl.lbDrew {kd : Kd α} {L : Lab} {w : World} {p : List Nat} {xs : List α} {v : Value} (h : Sl kd (Lb L) w p xs v) : Sl kd (Lb L) w.drew p xs v :=
  h.frame (fun s x m hb => ⟨fun o v hc => hc, hb⟩)
theorem Sl.nr {kd : Kd α} {L : Lab} {w : World} {p q : List Nat} {xs : List α} {v : Value} {r : Nat} {code : List Int} {pos : Int} {w0 : World} {l : List (Nat × List Value)} (h : Sl kd (Lb L) w p xs v) (E : ER r code pos w0 L w l) : Sl kd (Nr r w0.heap.size) w q xs v :=
  h.frame (fun s x m hb => by
    have hne : x ≠ r := fun e => hb.2.1 (by rw [e]; exact E.lab)
    refine ⟨fun o v hc => hc, hne, ?_, hb.2.2⟩
    cases hx : L x with
    | none => exact absurd hx hb.1
    | some p => exact E.fresh hx hne)
theorem Sl.nrAny {kd : Kd α} {r n : Nat} {w : World} {p q : List Nat} {xs : List α} {v : Value} (h : Sl kd (Nr r n) w p xs v) : Sl kd Any w q xs v := h.frame (fun s x m hb => ⟨fun o v hc => hc, hb.2.2⟩)
theorem Sl.nrPick {kd : Kd α} {r n : Nat} {w w' : World} {p : List Nat} {xs : List α} {v : Value} (h : Sl kd (Nr r n) w p xs v) (e : Fr (fun x => x = r) w w') : Sl kd (Nr r n) w' p xs v :=
  h.frame (fun s x m hb => ⟨fun o v hc => e.cell hb.1 hc, hb.1, hb.2.1, Nat.lt_of_lt_of_le hb.2.2 e.size⟩)
theorem Sl.nrExt {kd : Kd α} {r n : Nat} {w w' : World} {p : List Nat} {xs : List α} {v : Value} (h : Sl kd (Nr r n) w p xs v) (e : Ext w w') : Sl kd (Nr r n) w' p xs v := h.nrPick e.fr
/-- An older block is written. -/
theorem Sl.nrOld {kd : Kd α} {r n x : Nat} {w w' : World} {p : List Nat} {xs : List α} {v : Value} (h : Sl kd (Nr r n) w p xs v) (e : Fr (fun y => y = x) w w') (hx : x < n) : Sl kd (Nr r n) w' p xs v :=
  h.frame (fun s y m hb => ⟨fun o v hc => e.cell (fun he => by have := hb.2.1; omega) hc, hb.1, hb.2.1, Nat.lt_of_lt_of_le hb.2.2 e.size⟩)
/-- A small heap. -/
structure HB (h : Hp) : Prop where
  n : h.calls.length ≤ 40
  nt : ∀ c ∈ h.calls, c.temps.length ≤ 10 ∧ c.stack.length ≤ 10
  ns : h.said.length ≤ 200
theorem HB.ofOk {p : Pg} {h : Hp} (H : HOK p h) (hs : h.said.length ≤ 190) : HB h := by
  refine ⟨?_, fun c hc => ?_, by omega⟩
  · have := H.size; have := H.born2; omega
  · have f := form_iff.mp (H.forms c hc)
    have h1 := f.temps
    have h2 := f.stack
    have hm := methOk_iff.mp (prog_meth H.prog f.m0 f.m1)
    have := hm.t1
    omega
theorem HB.set {h : Hp} (B : HB h) {i : Nat} {c : Cl} (h1 : c.temps.length ≤ 10) (h2 : c.stack.length ≤ 10) : HB { h with calls := h.calls.set i c } := by
  refine ⟨by show (h.calls.set i c).length ≤ 40; rw [List.length_set]; exact B.n, fun d hd => ?_, B.ns⟩
  rcases List.mem_or_eq_of_mem_set hd with hd | rfl
  · exact B.nt d hd
  · exact ⟨h1, h2⟩
theorem HB.view {h : Hp} {w : World} {uc us : Value} (B : HB h) (hc : Sl kCall Any w [] h.calls uc) (hs : Sl kPair Any w [] h.said us) : HeapV w h uc us :=
  ⟨hc, hs, by have := B.n; omega, fun c hc => by have := B.nt c hc; omega, by have := B.ns; omega⟩
theorem said_run {p : Pg} : ∀ (n : Nat) (h : Hp), (runH p n h).said.length ≤ h.said.length + n
  | 0, h => Nat.le_refl _
  | n + 1, h => by
    unfold runH
    split
    · have := said_run (p := p) n (stepH p h)
      have := said_step (p := p) (h := h)
      omega
    · omega
/-- One element in a block of its own. -/
theorem sl_one {kd : Kd α} {ok : Ok} {w : World} {p : List Nat} {b : Nat} {y : α} {es : List Value} (hb : Blk w b es) (hK : kd.K ok w (p ++ [0]) y es) (ho : ok w p b kd.sz) : Sl kd ok w p [y] (.slice (some ⟨b, 0, none⟩) 1 1) := by
  refine ⟨_, 1, rfl, Nat.le_refl _, .inr ⟨b, 0, rfl, by simpa using ho, fun i x hx => ?_⟩⟩
  cases i with
  | zero =>
    obtain rfl : y = x := by simpa using hx
    exact ⟨es, hK, fun j c hj => by simpa using hb.cell hj⟩
  | succ i => simp at hx
section
variable {L L' : Lab} {w w' : World} {q : List Nat} {cs : List Cl} {vc : Value} {i : Nat} {b o : Nat} {c : Cl} {ut us : Value}
/-- A call in a row of one's own. -/
structure CF (L : Lab) (w : World) (q : List Nat) (vc : Value) (i : Nat) (c : Cl) (b o : Nat) (ut us : Value) : Prop where
  at' : At vc 6 i b o
  lab : L b = some q
  cells : Cells w b o (cellsC c ut us)
  temps : Sl kPair (Own L) w (q ++ [i] ++ [2]) c.temps ut
  stack : Sl kPair (Own L) w (q ++ [i] ++ [3]) c.stack us
theorem Sl.cf {n : Int} {k : Value → Prop} (h : Sl kCall (Own L) w q cs vc) (h0 : 0 ≤ n) (h1 : n < cs.length) (hk : ∀ b o ut us, CF L w q vc n.toNat (callAt cs n) b o ut us → k (.pointer (some ⟨b, o, none⟩))) : ixaT 6 vc (.int .i64 n) k := by
  refine h.ixo_of rfl h0 h1 (fun x b o es mm hx ha ho hK hc => ?_)
  obtain ⟨ut, us, rfl, h2, h3⟩ := hK
  have e : callAt cs n = x := callAt_of hx
  refine hk b o ut us ⟨ha, ho.1, ?_, ?_, ?_⟩
  · rw [e]; exact hc
  · rw [e]; exact h2
  · rw [e]; exact h3
theorem CF.ext (F : CF L w q vc i c b o ut us) (e : Ext w w') : CF L w' q vc i c b o ut us := ⟨F.at', F.lab, F.cells.ext e, F.temps.keepX e, F.stack.keepX e⟩
theorem path_ne {q s : List Nat} {i j : Nat} : q ++ [i] ++ [j] ++ s ≠ q := by
  intro e
  have := congrArg List.length e
  simp at this
theorem CF.st {off : Nat} {v ut' us' : Value} {c' : Cl} {k : World → Prop} (F : CF L w q vc i c b o ut us) (h : Sl kCall (Own L) w q cs vc) (hi : i < cs.length) (hv : v.oneCell' = true) (hoff : off + 1 ≤ 6) (hc : spl (cellsC c ut us) off [v] = cellsC c' ut' us')
    (ht : Sl kPair (Own L) w (q ++ [i] ++ [2]) c'.temps ut') (hs : Sl kPair (Own L) w (q ++ [i] ++ [3]) c'.stack us') (hk : ∀ w', Fr (fun x => x = b) w w' → Sl kCall (Own L) w' q (cs.set i c') vc → k w') : stT (.pointer (some ⟨b, o + off, none⟩)) v w k := by
  obtain ⟨hl, w', a1, a2, a3, a4⟩ := h.puts (vs := [v]) (off := off) F.at' hi hoff (by simpa using hv)
  refine st_of_stN a1 (hk w' a2 (a4 c' (fun es k1 k2 => ?_)))
  have : es = cellsC c ut us := cells_det k2 F.cells (by rw [kCall.len k1]; rfl)
  subst this
  rw [hc]
  exact ⟨ut', us', rfl, ht.other a2 hl (fun s => path_ne), hs.other a2 hl (fun s => path_ne)⟩
theorem CF.grow (F : CF L w q vc i c b o ut us) (h : Sl kCall (Own L) w q cs vc) (hl : Lim L w) (hi : i < cs.length) (hc : cs[i]? = some c) (g : Grw (q ++ [i] ++ [2]) L w L' w') (ht : Sl kPair (Own L') w' (q ++ [i] ++ [2]) c.temps ut) :
    Sl kCall (Own L') w' q cs vc ∧ CF L' w' q vc i c b o ut us := by
  have lab : ∀ {x : Nat} {r : List Nat}, L x = some r → L' x = some r := fun hr => g.lx.lab hl hr
  have hS : Sl kPair (Own L') w' (q ++ [i] ++ [3]) c.stack us := F.stack.grow g hl (fun s e => by simp at e)
  have hb : ¬ L b = some (q ++ [i] ++ [2]) := fun e => by rw [F.lab] at e; simp at e
  have hcs : Cells w' b o (cellsC c ut us) := F.cells.fr g.fr hb
  have hk := h.kid (L' := L') (x' := c) F.at' hi g.fr (fun x r hr hn => ⟨fun e => ?_, lab hr⟩) F.cells rfl ⟨ut, us, rfl, ht, hS⟩
  · rw [set_self hc] at hk
    exact ⟨hk, F.at', lab F.lab, hcs, ht, hS⟩
  · rw [hr] at e
    have e : q ++ r = q ++ ([i] ++ [2]) := by simpa using Option.some.inj e
    have := List.append_cancel_left e
    subst this
    exact hn rfl
end
attribute [local irreducible] ldT ldsT stT stsT allocT boxT bldT bslT nilT fadT ixaT fldT extT lenT pickT binT notT cviT opT opU condT clT clvT ivT loopT arT ndT World.cell? World.frozen? World.alloc World.drew World.setCell Blk Cells Sl
theorem c_specHeapNew {p : Pg} {u : Value} {w : World} {R : VW} (hp : Sl kMeth Any w [] p u) (hpo : progOk p = true)
    (hR : ∀ w' M uc us, Ext w w' → Born w M → Lim M w' → HOwn M w' (newH p) uc us → R (.tuple #[.agg (heapCells (newH p) uc us).toArray, .bool true]) w') : clT PR 196 [.agg #[u]] w R := by
  have hpl := prog_len hpo
  have hml : ∀ m ∈ p, m.ops.length ≤ 1073741824 := fun m hm => by
    have hpo := hpo
    unfold progOk at hpo
    simp only [Bool.and_eq_true, List.all_eq_true] at hpo
    have := (methOk_iff.mp (hpo.2.2 m hm)).ops
    omega
  have hm0 := methOk_iff.mp (prog_meth hpo (i := 0) (by omega) (by omega))
  have m1 := hm0.a0
  have m2 := hm0.t0
  have m3 := hm0.t1
  refine Fspec_HeapNew.cl ?_
  unfold Fspec_HeapNew
  have E := En.start w
  refine E.box (fun b1 w1 E _ => ?_)
  refine E.al (fun b2 w2 E _ => ?_)
  repeat (((refine E.lds (by first | exact .head _ | exact .tail _ (.head _)) (by exact rfl) ?_)))
  refine c_specProgOk (E.any hp) (by omega) hml (fun w3 e3 => ?_)
  rw [hpo]
  replace E := E.ext e3
  (refine not_of ?_)
  (refine condT_false ?_)
  repeat (((refine E.lds (by first | exact .head _ | exact .tail _ (.head _)) (by exact rfl) ?_)))
  refine bsl_of' rfl rfl rfl (fun b4 w4 e4 hb4 k4 => ?_)
  replace E := E.ext e4
  refine c_l11Call (args := []) (E.any hp) Sl.none0 (by omega) (by omega) (by simp) (by omega) (by omega) (fun w7 M7 ut us e7 hb7 hl7 ht hs => ?_)
  have ht := ht.inR (q := [0, 0]) (apart_of E.mu.lim hb7)
  have hs := hs.inR (q := [0, 0]) (apart_of E.mu.lim hb7)
  replace E := E.join [0, 0] e7 hb7 hl7
  refine bsl_of' rfl rfl rfl (fun b8 w8 e8 hb8 k8 => ?_)
  have hap := apart_of E.mu.lim (lab1_born (p := [0]) hb8)
  have hl8 := k8.lt
  have ht := (ht.keepX e8).inL (q := []) (M := lab1 b8 [0])
  have hs := (hs.keepX e8).inL (q := []) (M := lab1 b8 [0])
  replace E := E.join [] e8 (lab1_born (p := [0]) hb8) (lab1_lim (p := [0]) hl8)
  have hlab : joinL (joinL noL [0, 0] M7) [] (lab1 b8 [0]) b8 = some [0] := joinL_right (by simp [lab1]) (hap b8 [0] (by simp [lab1]))
  generalize joinL (joinL noL [0, 0] M7) [] (lab1 b8 [0]) = L at E ht hs hlab
  have k8 : Blk w8 b8 (cellsC (newC p 0 [] (-1)) ut us) := k8
  have hc : Sl kCall (Own L) w8 [0] [newC p 0 [] (-1)] (.slice (some ⟨b8, 0, none⟩) 1 1) := sl_one k8 ⟨ut, us, rfl, ht, hs⟩ (k8.own hlab (by simp [kCall, cellsC]))
  refine bsl_of' rfl rfl rfl (fun b9 w9 e9 hb9 k9 => ?_)
  replace E := E.ext e9
  have hc := hc.keepX e9
  refine bld_of (cs := #[.slice (some ⟨b8, 0, none⟩) 1 1, .int .i64 0, .int .i64 1, .slice (some ⟨b9, 0, none⟩) 0 0, .int .i64 0]) rfl ?_
  refine En.sts' (vs := heapCells (newH p) (.slice (some ⟨b8, 0, none⟩) 1 1) (.slice (some ⟨b9, 0, none⟩) 0 0)) [] rfl E rfl rfl (fun u hu => List.all_eq_true.mp rfl u hu) (fun w10 E e10 => ?_)
  refine E.lds (.head _) rfl ?_
  exact hR _ _ _ _ E.toExt E.born E.mu.lim ⟨hc.loc e10, Sl.none0⟩
def heapZ : List Value := [.slice none 0 0, .int .i64 0, .int .i64 0, .slice none 0 0, .int .i64 0]
/-- What a drawn program and heap are. -/
structure DHp (r : Nat) (code : List Int) (pos : Int) (w w' : World) (pos' : Int) (p : Pg) (h : Hp) (u uc us : Value) : Prop where
  fr : Fr (fun x => x = r) w w'
  rd : Rd w' r code pos'
  lo : pos ≤ pos'
  hi : pos' ≤ pos + 500
  prog : progOk p = true
  meth : Sl kMeth (Nr r w.heap.size) w' [] p u
  calls : Sl kCall (Nr r w.heap.size) w' [] h.calls uc
  said : Sl kPair (Nr r w.heap.size) w' [] h.said us
  small : HB h
theorem c_heap71 {r : Nat} {code : List Int} {pos : Int} {w : World} {R : VW} (hrd : Rd w r code pos) (hb : Bytes code) (hp : 0 ≤ pos) (hp' : pos ≤ 40000)
    (hR : ∀ u uc us w' pos' p h, DHp r code pos w w' pos' p h u uc us → R (.tuple #[.agg #[u], .agg (heapCells h uc us).toArray]) w') : clT PR 130 [.pointer (some ⟨r, 0, none⟩)] w R := by
  refine Fspec_l71Heap.cl ?_
  unfold Fspec_l71Heap
  have E := ER.init hrd
  refine E.al (fun b2 w1 E _ => ?_)
  refine E.al (fun b3 w2 E _ => ?_)
  refine c_prog E.rd hb hp (by omega) (fun v w3 M1 pos1 p D1 hs hpo hpl => ?_)
  have d1 := D1.lo
  have d2 := D1.hi
  obtain ⟨E1, T1⟩ := E.take [5] D1
  have ho := hs.inR (q := [5]) (E.apart D1)
  clear E T1 hs
  have E := E1
  clear E1
  have hml : ∀ m ∈ p, m.ops.length ≤ 1073741824 := fun m hm => by
    have hpo := hpo
    unfold progOk at hpo
    simp only [Bool.and_eq_true, List.all_eq_true] at hpo
    have := (methOk_iff.mp (hpo.2.2 m hm)).ops
    omega
  refine E.al (fun b4 w4 E e4 => ?_)
  replace ho := ho.keepX e4
  refine ER.sts' (vs := [v]) [] rfl E rfl rfl (by intro u hu; simp at hu; subst hu; exact ho.one) (fun w5 E e5 => ?_)
  replace ho := ho.loc e5
  refine E.en.lds (.head _) rfl ?_
  refine c_specHeapNew ho.any hpo (fun w6 M2 uc us e6 hb6 hl6 hO => ?_)
  have hap := apart_of E.en.mu.lim hb6
  have hcl := hO.calls.inR (q := [6]) hap
  have hsd := hO.said.inR (q := [6]) hap
  replace ho := (ho.keepX e6).inL (q := [6]) (M := M2)
  replace E := E.join [6] e6 hb6 hl6
  clear hO hb6 hl6 hap
  refine ext_of rfl ?_
  refine ext_of rfl ?_
  refine E.al (fun b5 w7 E e7 => ?_)
  replace ho := ho.keepX e7
  replace hcl := hcl.keepX e7
  replace hsd := hsd.keepX e7
  refine ER.sts' (vs := heapCells (newH p) uc us) [] rfl E rfl rfl (by intro x hx; simp only [heapCells, List.mem_cons, List.not_mem_nil, or_false] at hx; rcases hx with h | h | h | h | h <;> rw [h] <;> first | rfl | exact hcl.one | exact hsd.one) (fun w8 E e8 => ?_)
  replace ho := (ho.loc e8).drewX
  replace hcl := (hcl.loc e8).drewX
  replace hsd := (hsd.loc e8).drewX
  replace E := E.drew
  refine E.en.lds (.tail _ (.head _)) rfl ?_
  refine E.en.lds (.head _) rfl ?_
  refine c_pickE E hb (by omega) (by omega) (by omega) (fun x w9 hx0 hx1 E T => ?_)
  replace ho := ho.tr T (by decide)
  replace hcl := hcl.tr T (by decide)
  replace hsd := hsd.tr T (by decide)
  refine ⟨E.en.lds (.head _) rfl rfl, ?_⟩
  refine ⟨E.en.lds (.tail _ (.head _)) rfl rfl, ?_⟩
  have HN := newH_ok hpo
  have hrun : runR p (newH p) x = (runH p x.toNat (newH p), true) := by
    unfold runR
    rw [hok_iff.mpr HN, inB_t hx0 (by omega)]; rfl
  have hBN : HB (newH p) := HB.ofOk HN (by show 0 ≤ 190; omega)
  refine c_specRun ho.any (by omega) hml (hBN.view hcl.any hsd.any) (by show 0 ≤ _; omega) (fun w10 M3 uc' us' e10 hb10 hl10 hO => ?_)
  rw [hrun] at hO ⊢
  have H := run_ok x.toNat (newH p) HN
  have hkeep := keeps_run x.toNat HN
  have hsaid := said_run (p := p) x.toNat (newH p)
  have hs0 : (newH p).said.length = 0 := rfl
  have hB : HB (runH p x.toNat (newH p)) := HB.ofOk H (by omega)
  have hsl : (runH p x.toNat (newH p)).said.length ≤ 100 := by omega
  have hne : 0 < (runH p x.toNat (newH p)).calls.length := by
    have h1 : (newH p).calls.length = 1 := rfl
    have := hkeep.1
    omega
  generalize runH p x.toNat (newH p) = h at hO H hB hne hsl
  have hO : HOwn M3 w10 h uc' us' := hO
  clear hkeep hsaid hs0 hrun HN hBN hcl hsd
  have hap := apart_of E.en.mu.lim hb10
  have hcl := hO.calls.inR (q := [7]) hap
  have hsd := hO.said.inR (q := [7]) hap
  replace ho := (ho.keepX e10).inL (q := [7]) (M := M3)
  replace E := E.join [7] e10 hb10 hl10
  clear hO hb10 hl10 hap
  refine ext_of rfl ?_
  refine ext_of rfl ?_
  refine ER.sts' (vs := heapCells h uc' us') [] rfl E rfl rfl (by intro x hx; simp only [heapCells, List.mem_cons, List.not_mem_nil, or_false] at hx; rcases hx with h | h | h | h | h <;> rw [h] <;> first | rfl | exact hcl.one | exact hsd.one) (fun w11 E e11 => ?_)
  replace ho := ho.loc e11
  replace hcl := hcl.loc e11
  replace hsd := hsd.loc e11
  refine c_pickE E hb (by omega) (by omega) (by omega) (fun y w12 hy0 hy1 E T => ?_)
  replace ho := ho.tr T (by decide)
  replace hcl := hcl.tr T (by decide)
  replace hsd := hsd.tr T (by decide)
  -- what is handed back
  have fin : ∀ (L : Lab) (wx : World) (q : Int) (g : Hp) (gc gs : Value), ER r code q w L wx [(b5, heapCells g gc gs), (b4, [v]), (b3, heapZ), (b2, [.slice none 0 0])] → pos ≤ q → q ≤ pos + 500 → Sl kMeth (Lb L) wx [] p v → Sl kCall (Lb L) wx [] g.calls gc → Sl kPair (Lb L) wx [] g.said gs → HB g →
      ldsT 1 (.pointer (some ⟨b4, 0, none⟩)) wx.drew fun t25 => ldsT 5 (.pointer (some ⟨b5, 0, none⟩)) wx.drew fun t26 => stsT 1 (.pointer (some ⟨b2, 0, none⟩)) t25 wx.drew fun w13 => (ldsT 5 (.pointer (some ⟨b5, 0, none⟩)) w13 fun u => u = t26) ∧ stsT 5 (.pointer (some ⟨b3, 0, none⟩)) t26 w13 fun w14 => ldsT 1 (.pointer (some ⟨b2, 0, none⟩)) w14 fun r15 => ldsT 5 (.pointer (some ⟨b3, 0, none⟩)) w14 fun r16 => R (.tuple #[r15, r16]) w14 := by
    intro L wx q g gc gs E q0 q1 hm hc hs hB
    have E := E.drew
    have hm := hm.lbDrew
    have hc := hc.lbDrew
    have hs := hs.lbDrew
    refine E.en.lds (.tail _ (.head _)) rfl ?_
    refine E.en.lds (.head _) rfl ?_
    refine ER.sts' (vs := [v]) [_, _, _] rfl E rfl rfl (by intro u hu; simp at hu; subst hu; exact hm.one) (fun w13 E e13 => ?_)
    have hm := hm.lbLoc e13
    have hc := hc.lbLoc e13
    have hs := hs.lbLoc e13
    refine ⟨E.en.lds (.head _) rfl rfl, ?_⟩
    refine ER.sts' (vs := heapCells g gc gs) [_, _] rfl E rfl rfl (by intro x hx; simp only [heapCells, List.mem_cons, List.not_mem_nil, or_false] at hx; rcases hx with h | h | h | h | h <;> rw [h] <;> first | rfl | exact hc.one | exact hs.one) (fun w14 E e14 => ?_)
    have hm := hm.lbLoc e14
    have hc := hc.lbLoc e14
    have hs := hs.lbLoc e14
    refine E.en.lds (.tail _ (.tail _ (.tail _ (.head _)))) rfl ?_
    refine E.en.lds (.tail _ (.tail _ (.head _))) rfl ?_
    exact hR _ _ _ _ _ _ _ ⟨E.fr, E.rd, q0, q1, hpo, hm.nr E, hc.nr E, hs.nr E, hB⟩
  (refine gtr_of ?_)
  refine condGt_of (fun hc => ?_) (fun hc => ?_)
  · exact fin _ _ _ h _ _ E (by omega) (by omega) (ho.lb (by decide)) (hcl.lb (by decide)) (hsd.lb (by decide)) hB
  refine c_pickE E hb (by omega) (by omega) (by omega) (fun z w13 hz0 hz1 E T => ?_)
  replace ho := ho.tr T (by decide)
  replace hcl := hcl.tr T (by decide)
  replace hsd := hsd.tr T (by decide)
  (refine eql_of ?_)
  refine condP_of (fun hz => ?_) (fun _ => ?_)
  · (refine fad_of ?_)
    refine E.en.ld (.head _) rfl ?_
    refine hcl.len_of ?_
    have := hB.n
    (refine add_of (by (omega)) (by (omega)) ?_)
    refine c_pickE E hb (by omega) (by omega) (by omega) (fun a w14 ha0 ha1 E T => ?_)
    replace ho := ho.tr T (by decide)
    replace hcl := hcl.tr T (by decide)
    replace hsd := hsd.tr T (by decide)
    (refine sub_of (by (omega)) (by (omega)) ?_)
    (refine fad_of ?_)
    refine ER.st' [] E (by simp [heapCells]) rfl (fun w15 E e15 => ?_)
    exact fin _ _ _ { h with now := a - 1 } _ _ E (by omega) (by omega) ((ho.loc e15).lb (by decide)) ((hcl.loc e15).lb (by decide)) ((hsd.loc e15).lb (by decide)) ⟨hB.n, hB.nt, hB.ns⟩
  (refine eql_of ?_)
  refine condP_of (fun hz => ?_) (fun _ => ?_)
  · refine E.bsl rfl rfl rfl (fun b6 w14 E e14 => ?_)
    refine c_pickE E hb (by omega) (by omega) (by omega) (fun a w15 ha0 ha1 E T => ?_)
    replace ho := (ho.keepX e14).tr T (by decide)
    replace hcl := (hcl.keepX e14).tr T (by decide)
    replace hsd := (hsd.keepX e14).tr T (by decide)
    refine ixaS_of ha0 (by omega) ?_
    have ha : a = 0 ∨ a = 1 := by omega
    have key : ∀ n : Int, ((heapCells h uc' us').set 2 (.int .i64 n)) = heapCells { h with born := n } uc' us' := fun _ => rfl
    rcases ha with rfl | rfl
    · refine E.en.ld (.head _) rfl ?_
      (refine fad_of ?_)
      refine ER.st' [] E.pop (by simp [heapCells]) rfl (fun w16 E e16 => ?_)
      exact fin _ _ _ { h with born := 0 } _ _ E (by omega) (by omega) ((ho.loc e16).lb (by decide)) ((hcl.loc e16).lb (by decide)) ((hsd.loc e16).lb (by decide)) ⟨hB.n, hB.nt, hB.ns⟩
    · refine E.en.ld (.head _) rfl ?_
      (refine fad_of ?_)
      refine ER.st' [] E.pop (by simp [heapCells]) rfl (fun w16 E e16 => ?_)
      exact fin _ _ _ { h with born := 31 } _ _ E (by omega) (by omega) ((ho.loc e16).lb (by decide)) ((hcl.loc e16).lb (by decide)) ((hsd.loc e16).lb (by decide)) ⟨hB.n, hB.nt, hB.ns⟩
  (refine eql_of ?_)
  refine condP_of (fun hz => ?_) (fun _ => ?_)
  · refine c_pickE E hb (by omega) (by omega) (by omega) (fun a w14 ha0 ha1 E T => ?_)
    replace ho := ho.tr T (by decide)
    replace hcl := hcl.tr T (by decide)
    replace hsd := hsd.tr T (by decide)
    (refine sub_of (by (omega)) (by (omega)) ?_)
    (refine fad_of ?_)
    refine ER.st' [] E (by simp [heapCells]) rfl (fun w15 E e15 => ?_)
    exact fin _ _ _ { h with code := a - 1 } _ _ E (by omega) (by omega) ((ho.loc e15).lb (by decide)) ((hcl.loc e15).lb (by decide)) ((hsd.loc e15).lb (by decide)) ⟨hB.n, hB.nt, hB.ns⟩
  (refine eql_of ?_)
  have hc0 := hB.nt _ (callAt_mem (cs := h.calls) (i := 0) (by omega) (by omega))
  have hmu := E.en.mu.lim
  refine condP_of (fun hz => ?_) (fun _ => ?_)
  · replace E := E.drew
    replace ho := ho.drewX
    replace hcl := hcl.drewX
    replace hsd := hsd.drewX
    (refine fad_of ?_)
    refine E.en.ld (.head _) rfl ?_
    (refine fad_of ?_)
    refine E.en.ld (.head _) rfl ?_
    refine hcl.cf (n := 0) (by omega) (by omega) (fun b o ut us F => ?_)
    (refine fad_of ?_)
    refine ld_of (F.cells.at 5 rfl) ?_
    (refine not_of ?_)
    refine hcl.cf (n := 0) (by omega) (by omega) (fun b o ut us F => ?_)
    (refine fad_of ?_)
    refine F.st (off := 5) (c' := { callAt h.calls 0 with dead := !(callAt h.calls 0).dead }) hcl (by omega) rfl (by omega) rfl F.temps F.stack (fun w14 e14 hcl' => ?_)
    have E2 := E.wr F.lab (by decide) e14
    have ho2 := ho.other e14 F.lab (by simp)
    have hsd2 := hsd.other e14 F.lab (by simp)
    exact fin _ _ _ { h with calls := h.calls.set 0 { callAt h.calls 0 with dead := !(callAt h.calls 0).dead } } _ _ E2 (by omega) (by omega) (ho2.lb (by decide)) (hcl'.lb (by decide)) (hsd2.lb (by decide)) (hB.set hc0.1 hc0.2)
  (refine eql_of ?_)
  refine condP_of (fun hz => ?_) (fun _ => ?_)
  · replace E := E.drew
    replace ho := ho.drewX
    replace hcl := hcl.drewX
    replace hsd := hsd.drewX
    (refine fad_of ?_)
    refine E.en.ld (.head _) rfl ?_
    (refine fad_of ?_)
    refine E.en.ld (.head _) rfl ?_
    refine hcl.cf (n := 0) (by omega) (by omega) (fun b o ut us F => ?_)
    (refine fad_of ?_)
    refine ld_of (F.cells.at 2 rfl) ?_
    refine bld_of (cs := #[.int .i64 0, .int .i64 0]) rfl ?_
    refine E.bsl rfl rfl rfl (fun b6 w14 E e14 => ?_)
    replace ho := ho.keepX e14
    replace hcl := hcl.keepX e14
    replace hsd := hsd.keepX e14
    replace F := F.ext e14
    refine ⟨ld_of (F.cells.at 2 rfl) rfl, ?_⟩
    refine ⟨E.en.ld (.tail _ (.head _)) rfl rfl, ?_⟩
    refine ⟨E.en.ld (.tail _ (.head _)) rfl rfl, ?_⟩
    have hmu := E.en.mu.lim
    refine grow_lit [(0, 0)] (by kernel_rfl) F.temps (E.en.blk (.head _)) rfl (by simp; omega) E.en.mu.lim (fun v9 w15 L9 g9 k9 h9 => ?_)
    obtain ⟨hcl9, F9⟩ := F.grow hcl hmu (by omega) (by have := callAt_get (cs := h.calls) (i := 0) (by omega) (by omega); exact this) g9 k9
    have E := E.pop.grow g9 (by decide)
    have ho := ho.grow g9 hmu (by simp)
    have hsd := hsd.grow g9 hmu (by simp)
    refine ⟨E.en.ld (.head _) rfl rfl, ?_⟩
    refine hcl9.cf (n := 0) (by omega) (by omega) (fun b o ut us F => ?_)
    (refine fad_of ?_)
    refine F.st (off := 2) (c' := { callAt h.calls 0 with temps := (callAt h.calls 0).temps ++ [(0, 0)] }) hcl9 (by omega) h9.one (by omega) rfl h9 F.stack (fun w16 e16 hcl' => ?_)
    have E2 := E.wr F.lab (by decide) e16
    have ho2 := ho.other e16 F.lab (by simp)
    have hsd2 := hsd.other e16 F.lab (by simp)
    refine fin _ _ _ { h with calls := h.calls.set 0 { callAt h.calls 0 with temps := (callAt h.calls 0).temps ++ [(0, 0)] } } _ _ E2 (by omega) (by omega) (ho2.lb (by decide)) (hcl'.lb (by decide)) (hsd2.lb (by decide)) ?_
    have f := H.at (i := 0) (by omega) (by omega)
    have hm := H.meth (i := 0) (by omega) (by omega)
    have f1 := f.temps
    have f2 := hm.t1
    refine hB.set ?_ hc0.2
    simp only [List.length_append, List.length_singleton]
    omega
  (refine eql_of ?_)
  refine condP_of (fun hz => ?_) (fun _ => ?_)
  · (refine fad_of ?_)
    refine E.en.ld (.head _) rfl ?_
    (refine fad_of ?_)
    refine E.en.ld (.head _) rfl ?_
    refine hcl.len_of ?_
    have := hB.n
    (refine sub_of (by (omega)) (by (omega)) ?_)
    refine hcl.cf (n := 0) (by omega) (by omega) (fun b o ut us F => ?_)
    (refine fad_of ?_)
    refine F.st (off := 4) (c' := { callAt h.calls 0 with sender := (h.calls.length : Int) - 1 }) hcl (by omega) rfl (by omega) rfl F.temps F.stack (fun w14 e14 hcl' => ?_)
    have E2 := E.wr F.lab (by decide) e14
    have ho2 := ho.other e14 F.lab (by simp)
    have hsd2 := hsd.other e14 F.lab (by simp)
    exact fin _ _ _ { h with calls := h.calls.set 0 { callAt h.calls 0 with sender := (h.calls.length : Int) - 1 } } _ _ E2 (by omega) (by omega) (ho2.lb (by decide)) (hcl'.lb (by decide)) (hsd2.lb (by decide)) (hB.set hc0.1 hc0.2)
  (refine eql_of ?_)
  refine condP_of (fun hz => ?_) (fun _ => ?_)
  · (refine fad_of ?_)
    refine E.en.ld (.head _) rfl ?_
    refine bld_of (cs := #[.int .i64 2, .int .i64 9]) rfl ?_
    refine E.bsl rfl rfl rfl (fun b6 w14 E e14 => ?_)
    replace ho := ho.keepX e14
    replace hcl := hcl.keepX e14
    replace hsd := hsd.keepX e14
    have hmu := E.en.mu.lim
    have := hB.ns
    refine grow_lit [(2, 9)] (by kernel_rfl) hsd (E.en.blk (.head _)) rfl (by simp; omega) E.en.mu.lim (fun v9 w15 L9 g9 k9 h9 => ?_)
    have E := E.pop.grow g9 (by decide)
    have ho := ho.grow g9 hmu (by simp)
    have hcl := hcl.grow g9 hmu (by simp)
    (refine fad_of ?_)
    refine ER.st' [] E (by simp [heapCells]) h9.one (fun w16 E e16 => ?_)
    refine fin _ _ _ { h with said := h.said ++ [(2, 9)] } _ _ E (by omega) (by omega) ((ho.loc e16).lb (by decide)) ((hcl.loc e16).lb (by decide)) ((h9.loc e16).lb (by decide)) ⟨hB.n, hB.nt, ?_⟩
    show (h.said ++ [((2, 9) : V)]).length ≤ 200
    rw [List.length_append, List.length_singleton]; omega
  · (refine fad_of ?_)
    refine E.en.ld (.head _) rfl ?_
    have hlc : Sl kCall (Lb _) _ [] h.calls uc' := hcl.lb (by decide)
    refine sllE_of (q := []) (by kernel_rfl) (free_lb _) hlc (by omega) (by omega) (fun v' hv' => ?_)
    (refine fad_of ?_)
    refine ER.st' [] E (by simp [heapCells]) hv'.one (fun w16 E e16 => ?_)
    refine fin _ _ _ { h with calls := h.calls.drop 1 } _ _ E (by omega) (by omega) ((ho.loc e16).lb (by decide)) (hv'.lbLoc e16) ((hsd.loc e16).lb (by decide)) ⟨?_, fun c hc => hB.nt c (List.mem_of_mem_drop (i := 1) hc), hB.ns⟩
    show (h.calls.drop 1).length ≤ 40
    have := hB.n
    rw [List.length_drop]; omega
theorem Bt.ext {w w' : World} {code : List Int} {v : Value} (h : Bt w code v) (e : Ext w w') : Bt w' code v :=
  ⟨h.1, h.2.imp id (fun h => h.frame (fun r b m hb => ⟨fun o v hc => Ext.cell e hc, Nat.lt_of_lt_of_le hb e.size⟩))⟩
/-- A drawn program and heap, for who asks no more. -/
structure DW (w w' : World) (p : Pg) (h : Hp) (u uc us : Value) : Prop where
  ext : Ext w w'
  prog : progOk p = true
  meth : Sl kMeth Any w' [] p u
  view : HeapV w' h uc us
  small : HB h
theorem c_drawStep {w : World} {code : List Int} {v : Value} {R : VW} (h : Bt w code v) (hb : ∀ x ∈ code, 0 ≤ x ∧ x ≤ 255)
    (hR : ∀ u uc us w' p h, DW w w' p h u uc us → R (.tuple #[.agg #[u], .agg (heapCells h uc us).toArray]) w') : clT PR 62 [v] w R := by
  refine Fspec_DrawHeapStep.cl ?_
  unfold Fspec_DrawHeapStep
  have E := En.start w
  refine E.al (fun b2 w1 E _ => ?_)
  refine E.al (fun b3 w2 E _ => ?_)
  refine c_l6Open (h.ext E.toExt) hb (fun r w3 code' e3 hr3 hrd hb' => ?_)
  have l2 := (E.ext e3).loc _ (.tail _ (.head _))
  have l3 := (E.ext e3).loc _ (.head _)
  have l2 := l2.1.1.lt
  have l3 := l3.1.1.lt
  have lr := hrd.lt
  replace E := E.join [] e3 (lab1_born (p := [9]) hr3) (lab1_lim (p := [9]) lr)
  have hlab : joinL noL [] (lab1 r [9]) r = some [9] := joinL_right (by simp [lab1]) rfl
  generalize joinL noL [] (lab1 r [9]) = L at E hlab
  refine c_heap71 hrd hb' (by omega) (by omega) (fun u uc us w4 pos' p g D => ?_)
  replace E := E.call (Mut.at D.fr hlab E.mu.lim)
  have hm := D.meth
  have hc := D.calls
  have hs := D.said
  refine ext_of rfl ?_
  refine ext_of rfl ?_
  refine En.sts' (vs := [u]) [_] rfl E rfl rfl (by intro x hx; simp at hx; subst hx; exact hm.one) (fun w5 E e5 => ?_)
  replace hm := hm.nrOld e5.fr l2
  replace hc := hc.nrOld e5.fr l2
  replace hs := hs.nrOld e5.fr l2
  refine En.sts' (vs := heapCells g uc us) [] rfl E rfl rfl (by intro x hx; simp only [heapCells, List.mem_cons, List.not_mem_nil, or_false] at hx; rcases hx with h | h | h | h | h <;> rw [h] <;> first | rfl | exact hc.one | exact hs.one) (fun w6 E e6 => ?_)
  replace hm := hm.nrOld e6.fr l3
  replace hc := hc.nrOld e6.fr l3
  replace hs := hs.nrOld e6.fr l3
  refine E.lds (.tail _ (.head _)) rfl ?_
  refine E.lds (.head _) rfl ?_
  exact hR _ _ _ _ _ _ ⟨E.toExt, D.prog, hm.nrAny, D.small.view hc.nrAny hs.nrAny, D.small⟩
end Go.PT
