/- The reader of a code: what opening one and picking a number do. -/
import Derived.Test.YtfcbjfijidobaaaMem
import Derived.Test.YtfcbjfijidobaaaTurnText
set_option linter.unusedVariables false
namespace Go.PT
def kByte : Kd Int := Kd.flat 1 (fun n => [.int .u8 n]) (fun _ => rfl) (fun _ v hv => by simp at hv; subst hv; rfl)
theorem Sl.frame' {α : Type} {kd : Kd α} {ok ok' : Ok} {w p q} {xs : List α} {v} (h : Sl kd ok w p xs v) (hf : ∀ r b m, ok w (p ++ r) b m → ok' w (q ++ r) b m) : Sl kd ok' w q xs v := h.frame (fun r b m hb => ⟨fun _ _ h => h, hf r b m hb⟩)
/-- A reader at a place of a code. -/
def Rd (w : World) (r : Nat) (code : List Int) (pos : Int) : Prop :=
  ∃ v, w.cell? ⟨r, 0, none⟩ = some v ∧ w.cell? ⟨r, 1, none⟩ = some (.int .i64 pos) ∧ w.frozen? ⟨r, 1, none⟩ = false ∧ (∃ A c, v = .slice A code.length c) ∧ (code = [] ∨ Sl kByte (Off (fun x => r ≤ x)) w [] code v)
theorem frozen_keep {S : Nat → Prop} {w w' : World} (e : Fr S w w') {b o : Nat} (hb : b < w.heap.size) (hs : ¬ S b) : w'.frozen? ⟨b, o, none⟩ = w.frozen? ⟨b, o, none⟩ := World.frozen?_of_block (e.keep b hb hs)
theorem Rd.lt {w : World} {r : Nat} {code : List Int} {pos : Int} (h : Rd w r code pos) : r < w.heap.size := by obtain ⟨v, h1, _⟩ := h; exact cell_lt h1
theorem Rd.fr {w w' : World} {r : Nat} {code : List Int} {pos : Int} (h : Rd w r code pos) (e : Ext w w') : Rd w' r code pos := by
  obtain ⟨v, h1, h2, h3, h5, h4⟩ := h
  exact ⟨v, Ext.cell e h1, Ext.cell e h2, by rw [frozen_keep e (cell_lt h1) (fun e => e)]; exact h3, h5, h4.imp id (fun h => h.offExt e)⟩
theorem Rd.set {w : World} {r : Nat} {code : List Int} {pos : Int} (h : Rd w r code pos) (pos' : Int) : Rd (w.setCell ⟨r, 1, none⟩ (.int .i64 pos')) r code pos' := by
  obtain ⟨v, h1, h2, h3, h5, h4⟩ := h
  exact ⟨v, cell_far (.inr (by decide)) h1, cell_put h2, by rw [World.frozen?_setCell]; exact h3, h5, h4.imp id (fun h => h.off ((Fr.refl (fun x => r ≤ x) w).set (.inr (Nat.le_refl _)) _))⟩
theorem Rd.keep {S : Nat → Prop} {w w' : World} {r : Nat} {code : List Int} {pos : Int} (h : Rd w r code pos) (e : Fr S w w') (hs : ∀ x, S x → r < x) : Rd w' r code pos := by
  obtain ⟨v, h1, h2, h3, h5, h4⟩ := h
  have hr : ¬ S r := fun e => absurd (hs r e) (Nat.lt_irrefl _)
  exact ⟨v, e.cell hr h1, e.cell hr h2, by rw [frozen_keep e (cell_lt h1) hr]; exact h3, h5, h4.imp id (fun h => h.off (e.to (fun b _ hb => Nat.le_of_lt (hs b hb))))⟩
def Bytes (code : List Int) : Prop := (∀ x ∈ code, 0 ≤ x ∧ x ≤ 255) ∧ code.length ≤ 4000
theorem tmod_range (a n : Int) (ha : 0 ≤ a) (hn : 0 < n) : 0 ≤ Int.tmod a n ∧ Int.tmod a n < n := by
  rw [Int.tmod_eq_emod_of_nonneg ha]
  exact ⟨Int.emod_nonneg _ (by omega), Int.emod_lt_of_pos _ hn⟩
theorem tdiv_range (a n : Int) (ha : 0 ≤ a) (hn : 0 < n) : 0 ≤ Int.tdiv a n ∧ Int.tdiv a n ≤ a := by
  rw [Int.tdiv_eq_ediv_of_nonneg ha]
  exact ⟨Int.ediv_nonneg ha (by omega), Int.ediv_le_self _ ha⟩
theorem xor_nonneg (x y : Int) (hx : 0 ≤ x) (hx' : x < 4611686018427387904) (hy : 0 ≤ y) (hy' : y < 4611686018427387904) : 0 ≤ bits .xor .i64 x y := by
  obtain ⟨a, rfl⟩ := Int.eq_ofNat_of_zero_le hx
  obtain ⟨b, rfl⟩ := Int.eq_ofNat_of_zero_le hy
  have ha : a < 2 ^ 62 := by omega
  have hb : b < 2 ^ 62 := by omega
  have h := Nat.xor_lt_two_pow ha hb
  show 0 ≤ IntKind.i64.wrap ((BitVec.ofInt 64 (a : Int) ^^^ BitVec.ofInt 64 (b : Int)).toNat : Int)
  rw [BitVec.toNat_xor, BitVec.toNat_ofInt, BitVec.toNat_ofInt]
  have e1 : (((a : Int) % ((2 ^ 64 : Nat) : Int)).toNat) = a := by omega
  have e2 : (((b : Int) % ((2 ^ 64 : Nat) : Int)).toNat) = b := by omega
  rw [e1, e2, i64_wrap _ (by omega) (by omega)]
  omega
theorem byte_at {w : World} {ok : Ok} {p : List Nat} {code : List Int} {v : Value} {i : Int} {k : Value → Prop} (hb : Bytes code) (h : Sl kByte ok w p code v) (h0 : 0 ≤ i) (h1 : i < code.length)
    (hk : ∀ b o x, 0 ≤ x → x ≤ 255 → w.cell? ⟨b, o, none⟩ = some (.int .u8 x) → k (.pointer (some ⟨b, o, none⟩))) : ixaT 1 v (.int .i64 i) k := by
  refine h.ix_of rfl h0 h1 (fun x b o es hx hK hc => ?_)
  have hes : es = [.int .u8 x] := hK
  subst hes
  have hx' := hb.1 x (List.mem_of_getElem? hx)
  exact hk b o x hx'.1 hx'.2 (by simpa using hc.at 0 rfl)

theorem c_pick {w : World} {r : Nat} {code : List Int} {pos n : Int} {R : VW} (h : Rd w r code pos) (hb : Bytes code) (hp : 0 ≤ pos) (hp' : pos ≤ 100000) (hn : 1 ≤ n)
    (hR : ∀ v w', 0 ≤ v → v < n → Fr (fun x => x = r) w w' → Rd w' r code (pos + 1) → R (.int .i64 v) w') : clT PR 17 [.pointer (some ⟨r, 0, none⟩), .int .i64 n] w R := by
  refine Fspec_l6Rd_pick.cl ?_
  unfold Fspec_l6Rd_pick
  obtain ⟨v, h1, h2, h3, h5, h4⟩ := h
  have hl := hb.2
  repeat (first | (first | refine fad_of ?_ | refine nil_of ?_ | refine lss_of ?_ | refine leq_of ?_ | refine gtr_of ?_ | refine geq_of ?_ | refine eql_of ?_ | refine neq_of ?_ | refine not_of ?_ | refine cvi_of ?_ | refine lenS_of ?_ | refine condT_true ?_ | refine condT_false ?_) | (first | refine add_of (by omega) (by omega) ?_ | refine sub_of (by omega) (by omega) ?_ | refine mul_of (by omega) (by omega) ?_) | (first | refine ld_of (by repeat (first | assumption | exact Blk.cell (by assumption) (by rfl) | exact Cells.at (by assumption) _ (by rfl) | refine cell_drew ?_ | refine Ext.cell (by assumption) ?_ | refine Fr.cell' (by assumption) (by first | assumption | omega) ?_)) ?_ | refine lds_of (by repeat (first | assumption | exact Blk.cells (by assumption) | refine Cells.drew ?_ | refine Cells.ext ?_ (by assumption) | refine Cells.fr' ?_ (by assumption) (by first | assumption | omega))) (by rfl) ?_))
  refine st_of rfl h2 h3 ?_
  have hfr : Fr (fun x => x = r) w (w.setCell ⟨r, 0 + 1, none⟩ (.int .i64 (pos + 1))) := (Fr.refl (fun x => x = r) w).set (.inr rfl) _
  have hrd : Rd (w.setCell ⟨r, 0 + 1, none⟩ (.int .i64 (pos + 1))) r code (pos + 1) := Rd.set ⟨v, h1, h2, h3, h5, h4⟩ _
  generalize w.setCell ⟨r, 0 + 1, none⟩ (.int .i64 (pos + 1)) = w1 at hfr hrd
  have hrd' := hrd
  obtain ⟨v, h1, h2, h3, ⟨A, c, hv⟩, h4⟩ := hrd
  have done : ∀ x : Int, 0 ≤ x → R (.int .i64 (x.tmod n)) w1 := fun x hx => hR _ _ (tmod_range x n hx (by omega)).1 (tmod_range x n hx (by omega)).2 hfr hrd'
  have doneD : ∀ x : Int, 0 ≤ x → R (.int .i64 (x.tmod n)) w1.drew := fun x hx => hR _ _ (tmod_range x n hx (by omega)).1 (tmod_range x n hx (by omega)).2 hfr.drew hrd'
  repeat (first | (first | refine fad_of ?_ | refine nil_of ?_ | refine lss_of ?_ | refine leq_of ?_ | refine gtr_of ?_ | refine geq_of ?_ | refine eql_of ?_ | refine neq_of ?_ | refine not_of ?_ | refine cvi_of ?_ | refine lenS_of ?_ | refine condT_true ?_ | refine condT_false ?_) | (first | refine add_of (by omega) (by omega) ?_ | refine sub_of (by omega) (by omega) ?_ | refine mul_of (by omega) (by omega) ?_) | (first | refine ld_of (by repeat (first | assumption | exact Blk.cell (by assumption) (by rfl) | exact Cells.at (by assumption) _ (by rfl) | refine cell_drew ?_ | refine Ext.cell (by assumption) ?_ | refine Fr.cell' (by assumption) (by first | assumption | omega) ?_)) ?_ | refine lds_of (by repeat (first | assumption | exact Blk.cells (by assumption) | refine Cells.drew ?_ | refine Cells.ext ?_ (by assumption) | refine Cells.fr' ?_ (by assumption) (by first | assumption | omega))) (by rfl) ?_))
  refine condP_of (fun hc => by omega) (fun _ => ?_)
  repeat (first | (first | refine fad_of ?_ | refine nil_of ?_ | refine lss_of ?_ | refine leq_of ?_ | refine gtr_of ?_ | refine geq_of ?_ | refine eql_of ?_ | refine neq_of ?_ | refine not_of ?_ | refine cvi_of ?_ | refine lenS_of ?_ | refine condT_true ?_ | refine condT_false ?_) | (first | refine add_of (by omega) (by omega) ?_ | refine sub_of (by omega) (by omega) ?_ | refine mul_of (by omega) (by omega) ?_) | (first | refine ld_of (by repeat (first | assumption | exact Blk.cell (by assumption) (by rfl) | exact Cells.at (by assumption) _ (by rfl) | refine cell_drew ?_ | refine Ext.cell (by assumption) ?_ | refine Fr.cell' (by assumption) (by first | assumption | omega) ?_)) ?_ | refine lds_of (by repeat (first | assumption | exact Blk.cells (by assumption) | refine Cells.drew ?_ | refine Cells.ext ?_ (by assumption) | refine Cells.fr' ?_ (by assumption) (by first | assumption | omega))) (by rfl) ?_))
  have hlen : ∀ {k : Value → Prop}, k (.int .i64 code.length) → lenT v k := fun hk => by rw [hv]; exact hk
  refine hlen ?_
  repeat (first | (first | refine fad_of ?_ | refine nil_of ?_ | refine lss_of ?_ | refine leq_of ?_ | refine gtr_of ?_ | refine geq_of ?_ | refine eql_of ?_ | refine neq_of ?_ | refine not_of ?_ | refine cvi_of ?_ | refine lenS_of ?_ | refine condT_true ?_ | refine condT_false ?_) | (first | refine add_of (by omega) (by omega) ?_ | refine sub_of (by omega) (by omega) ?_ | refine mul_of (by omega) (by omega) ?_) | (first | refine ld_of (by repeat (first | assumption | exact Blk.cell (by assumption) (by rfl) | exact Cells.at (by assumption) _ (by rfl) | refine cell_drew ?_ | refine Ext.cell (by assumption) ?_ | refine Fr.cell' (by assumption) (by first | assumption | omega) ?_)) ?_ | refine lds_of (by repeat (first | assumption | exact Blk.cells (by assumption) | refine Cells.drew ?_ | refine Cells.ext ?_ (by assumption) | refine Cells.fr' ?_ (by assumption) (by first | assumption | omega))) (by rfl) ?_))
  refine condP_of (fun hc => hR _ _ (by omega) (by omega) hfr hrd') (fun hne => ?_)
  have h4 : Sl kByte (Off (fun x => r ≤ x)) w1 [] code v := h4.resolve_left (fun e => hne (by rw [e]; rfl))
  repeat (first | (first | refine fad_of ?_ | refine nil_of ?_ | refine lss_of ?_ | refine leq_of ?_ | refine gtr_of ?_ | refine geq_of ?_ | refine eql_of ?_ | refine neq_of ?_ | refine not_of ?_ | refine cvi_of ?_ | refine lenS_of ?_ | refine condT_true ?_ | refine condT_false ?_) | (first | refine add_of (by omega) (by omega) ?_ | refine sub_of (by omega) (by omega) ?_ | refine mul_of (by omega) (by omega) ?_) | (first | refine ld_of (by repeat (first | assumption | exact Blk.cell (by assumption) (by rfl) | exact Cells.at (by assumption) _ (by rfl) | refine cell_drew ?_ | refine Ext.cell (by assumption) ?_ | refine Fr.cell' (by assumption) (by first | assumption | omega) ?_)) ?_ | refine lds_of (by repeat (first | assumption | exact Blk.cells (by assumption) | refine Cells.drew ?_ | refine Cells.ext ?_ (by assumption) | refine Cells.fr' ?_ (by assumption) (by first | assumption | omega))) (by rfl) ?_))
  refine h4.len_of ?_
  repeat (first | (first | refine fad_of ?_ | refine nil_of ?_ | refine lss_of ?_ | refine leq_of ?_ | refine gtr_of ?_ | refine geq_of ?_ | refine eql_of ?_ | refine neq_of ?_ | refine not_of ?_ | refine cvi_of ?_ | refine lenS_of ?_ | refine condT_true ?_ | refine condT_false ?_) | (first | refine add_of (by omega) (by omega) ?_ | refine sub_of (by omega) (by omega) ?_ | refine mul_of (by omega) (by omega) ?_) | (first | refine ld_of (by repeat (first | assumption | exact Blk.cell (by assumption) (by rfl) | exact Cells.at (by assumption) _ (by rfl) | refine cell_drew ?_ | refine Ext.cell (by assumption) ?_ | refine Fr.cell' (by assumption) (by first | assumption | omega) ?_)) ?_ | refine lds_of (by repeat (first | assumption | exact Blk.cells (by assumption) | refine Cells.drew ?_ | refine Cells.ext ?_ (by assumption) | refine Cells.fr' ?_ (by assumption) (by first | assumption | omega))) (by rfl) ?_))
  rw [show pos + 1 - 1 = pos by omega]
  refine condP_of (fun hc => ?_) (fun hc => ?_)
  · repeat (first | (first | refine fad_of ?_ | refine nil_of ?_ | refine lss_of ?_ | refine leq_of ?_ | refine gtr_of ?_ | refine geq_of ?_ | refine eql_of ?_ | refine neq_of ?_ | refine not_of ?_ | refine cvi_of ?_ | refine lenS_of ?_ | refine condT_true ?_ | refine condT_false ?_) | (first | refine add_of (by omega) (by omega) ?_ | refine sub_of (by omega) (by omega) ?_ | refine mul_of (by omega) (by omega) ?_) | (first | refine ld_of (by repeat (first | assumption | exact Blk.cell (by assumption) (by rfl) | exact Cells.at (by assumption) _ (by rfl) | refine cell_drew ?_ | refine Ext.cell (by assumption) ?_ | refine Fr.cell' (by assumption) (by first | assumption | omega) ?_)) ?_ | refine lds_of (by repeat (first | assumption | exact Blk.cells (by assumption) | refine Cells.drew ?_ | refine Cells.ext ?_ (by assumption) | refine Cells.fr' ?_ (by assumption) (by first | assumption | omega))) (by rfl) ?_))
    refine byte_at hb h4 (by omega) hc (fun b o x hx0 hx1 hcell => ?_)
    repeat (first | (first | refine fad_of ?_ | refine nil_of ?_ | refine lss_of ?_ | refine leq_of ?_ | refine gtr_of ?_ | refine geq_of ?_ | refine eql_of ?_ | refine neq_of ?_ | refine not_of ?_ | refine cvi_of ?_ | refine lenS_of ?_ | refine condT_true ?_ | refine condT_false ?_) | (first | refine add_of (by omega) (by omega) ?_ | refine sub_of (by omega) (by omega) ?_ | refine mul_of (by omega) (by omega) ?_) | (first | refine ld_of (by repeat (first | assumption | exact Blk.cell (by assumption) (by rfl) | exact Cells.at (by assumption) _ (by rfl) | refine cell_drew ?_ | refine Ext.cell (by assumption) ?_ | refine Fr.cell' (by assumption) (by first | assumption | omega) ?_)) ?_ | refine lds_of (by repeat (first | assumption | exact Blk.cells (by assumption) | refine Cells.drew ?_ | refine Cells.ext ?_ (by assumption) | refine Cells.fr' ?_ (by assumption) (by first | assumption | omega))) (by rfl) ?_))
    rw [i64_wrap _ (by omega) (by omega)]
    refine rem_of (by omega) ?_
    exact done x hx0
  · have hL : (0 : Int) < code.length := by omega
    have q1 := tmod_range pos code.length hp hL
    have q2 := tmod_range (pos * 7 + 3) code.length (by omega) hL
    have q3 := tdiv_range pos code.length hp hL
    repeat (first | (first | refine fad_of ?_ | refine nil_of ?_ | refine lss_of ?_ | refine leq_of ?_ | refine gtr_of ?_ | refine geq_of ?_ | refine eql_of ?_ | refine neq_of ?_ | refine not_of ?_ | refine cvi_of ?_ | refine lenS_of ?_ | refine condT_true ?_ | refine condT_false ?_) | (first | refine add_of (by omega) (by omega) ?_ | refine sub_of (by omega) (by omega) ?_ | refine mul_of (by omega) (by omega) ?_) | (first | refine ld_of (by repeat (first | assumption | exact Blk.cell (by assumption) (by rfl) | exact Cells.at (by assumption) _ (by rfl) | refine cell_drew ?_ | refine Ext.cell (by assumption) ?_ | refine Fr.cell' (by assumption) (by first | assumption | omega) ?_)) ?_ | refine lds_of (by repeat (first | assumption | exact Blk.cells (by assumption) | refine Cells.drew ?_ | refine Cells.ext ?_ (by assumption) | refine Cells.fr' ?_ (by assumption) (by first | assumption | omega))) (by rfl) ?_))
    refine h4.len_of ?_
    refine rem_of (by omega) ?_
    refine byte_at hb h4 q1.1 q1.2 (fun b o x hx0 hx1 hcell => ?_)
    repeat (first | (first | refine fad_of ?_ | refine nil_of ?_ | refine lss_of ?_ | refine leq_of ?_ | refine gtr_of ?_ | refine geq_of ?_ | refine eql_of ?_ | refine neq_of ?_ | refine not_of ?_ | refine cvi_of ?_ | refine lenS_of ?_ | refine condT_true ?_ | refine condT_false ?_) | (first | refine add_of (by omega) (by omega) ?_ | refine sub_of (by omega) (by omega) ?_ | refine mul_of (by omega) (by omega) ?_) | (first | refine ld_of (by repeat (first | assumption | exact Blk.cell (by assumption) (by rfl) | exact Cells.at (by assumption) _ (by rfl) | refine cell_drew ?_ | refine Ext.cell (by assumption) ?_ | refine Fr.cell' (by assumption) (by first | assumption | omega) ?_)) ?_ | refine lds_of (by repeat (first | assumption | exact Blk.cells (by assumption) | refine Cells.drew ?_ | refine Cells.ext ?_ (by assumption) | refine Cells.fr' ?_ (by assumption) (by first | assumption | omega))) (by rfl) ?_))
    rw [i64_wrap _ (by omega) (by omega)]
    repeat (first | (first | refine fad_of ?_ | refine nil_of ?_ | refine lss_of ?_ | refine leq_of ?_ | refine gtr_of ?_ | refine geq_of ?_ | refine eql_of ?_ | refine neq_of ?_ | refine not_of ?_ | refine cvi_of ?_ | refine lenS_of ?_ | refine condT_true ?_ | refine condT_false ?_) | (first | refine add_of (by omega) (by omega) ?_ | refine sub_of (by omega) (by omega) ?_ | refine mul_of (by omega) (by omega) ?_) | (first | refine ld_of (by repeat (first | assumption | exact Blk.cell (by assumption) (by rfl) | exact Cells.at (by assumption) _ (by rfl) | refine cell_drew ?_ | refine Ext.cell (by assumption) ?_ | refine Fr.cell' (by assumption) (by first | assumption | omega) ?_)) ?_ | refine lds_of (by repeat (first | assumption | exact Blk.cells (by assumption) | refine Cells.drew ?_ | refine Cells.ext ?_ (by assumption) | refine Cells.fr' ?_ (by assumption) (by first | assumption | omega))) (by rfl) ?_))
    refine h4.len_of ?_
    refine rem_of (by omega) ?_
    refine byte_at hb h4 q2.1 q2.2 (fun b' o' y hy0 hy1 hcell' => ?_)
    repeat (first | (first | refine fad_of ?_ | refine nil_of ?_ | refine lss_of ?_ | refine leq_of ?_ | refine gtr_of ?_ | refine geq_of ?_ | refine eql_of ?_ | refine neq_of ?_ | refine not_of ?_ | refine cvi_of ?_ | refine lenS_of ?_ | refine condT_true ?_ | refine condT_false ?_) | (first | refine add_of (by omega) (by omega) ?_ | refine sub_of (by omega) (by omega) ?_ | refine mul_of (by omega) (by omega) ?_) | (first | refine ld_of (by repeat (first | assumption | exact Blk.cell (by assumption) (by rfl) | exact Cells.at (by assumption) _ (by rfl) | refine cell_drew ?_ | refine Ext.cell (by assumption) ?_ | refine Fr.cell' (by assumption) (by first | assumption | omega) ?_)) ?_ | refine lds_of (by repeat (first | assumption | exact Blk.cells (by assumption) | refine Cells.drew ?_ | refine Cells.ext ?_ (by assumption) | refine Cells.fr' ?_ (by assumption) (by first | assumption | omega))) (by rfl) ?_))
    rw [i64_wrap _ (by omega) (by omega)]
    repeat (first | (first | refine fad_of ?_ | refine nil_of ?_ | refine lss_of ?_ | refine leq_of ?_ | refine gtr_of ?_ | refine geq_of ?_ | refine eql_of ?_ | refine neq_of ?_ | refine not_of ?_ | refine cvi_of ?_ | refine lenS_of ?_ | refine condT_true ?_ | refine condT_false ?_) | (first | refine add_of (by omega) (by omega) ?_ | refine sub_of (by omega) (by omega) ?_ | refine mul_of (by omega) (by omega) ?_) | (first | refine ld_of (by repeat (first | assumption | exact Blk.cell (by assumption) (by rfl) | exact Cells.at (by assumption) _ (by rfl) | refine cell_drew ?_ | refine Ext.cell (by assumption) ?_ | refine Fr.cell' (by assumption) (by first | assumption | omega) ?_)) ?_ | refine lds_of (by repeat (first | assumption | exact Blk.cells (by assumption) | refine Cells.drew ?_ | refine Cells.ext ?_ (by assumption) | refine Cells.fr' ?_ (by assumption) (by first | assumption | omega))) (by rfl) ?_))
    refine h4.len_of ?_
    refine quo_of (by omega) (by omega) (by omega) ?_
    repeat (first | (first | refine fad_of ?_ | refine nil_of ?_ | refine lss_of ?_ | refine leq_of ?_ | refine gtr_of ?_ | refine geq_of ?_ | refine eql_of ?_ | refine neq_of ?_ | refine not_of ?_ | refine cvi_of ?_ | refine lenS_of ?_ | refine condT_true ?_ | refine condT_false ?_) | (first | refine add_of (by omega) (by omega) ?_ | refine sub_of (by omega) (by omega) ?_ | refine mul_of (by omega) (by omega) ?_) | (first | refine ld_of (by repeat (first | assumption | exact Blk.cell (by assumption) (by rfl) | exact Cells.at (by assumption) _ (by rfl) | refine cell_drew ?_ | refine Ext.cell (by assumption) ?_ | refine Fr.cell' (by assumption) (by first | assumption | omega) ?_)) ?_ | refine lds_of (by repeat (first | assumption | exact Blk.cells (by assumption) | refine Cells.drew ?_ | refine Cells.ext ?_ (by assumption) | refine Cells.fr' ?_ (by assumption) (by first | assumption | omega))) (by rfl) ?_))
    have hs : 0 ≤ x * 131 + y * 1117 + pos * 29 + pos.tdiv code.length * 53 ∧ x * 131 + y * 1117 + pos * 29 + pos.tdiv code.length * 53 < 4611686018427387904 := by omega
    generalize x * 131 + y * 1117 + pos * 29 + pos.tdiv code.length * 53 = s at hs
    have q4 := tdiv_range s 64 hs.1 (by omega)
    refine quo_of (by omega) (by omega) (by omega) ?_
    refine xor_of ?_
    refine rem_of (by omega) ?_
    exact doneD _ (xor_nonneg _ _ hs.1 hs.2 q4.1 (by omega))
end Go.PT
