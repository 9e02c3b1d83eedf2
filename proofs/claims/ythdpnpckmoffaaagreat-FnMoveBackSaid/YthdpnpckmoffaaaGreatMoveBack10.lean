/- What the claim of FnMoveBack leans on, part 11 of 16. -/
import Derived.Laws.StructEq
import Derived.Test.YthdpnpckmoffaaaGreatMoveBack00
import Derived.Test.YthdpnpckmoffaaaGreatMoveBack01
import Derived.Test.YthdpnpckmoffaaaGreatMoveBack02
import Derived.Test.YthdpnpckmoffaaaGreatMoveBack03
import Derived.Test.YthdpnpckmoffaaaGreatMoveBack04
import Derived.Test.YthdpnpckmoffaaaGreatMoveBack05
import Derived.Test.YthdpnpckmoffaaaGreatMoveBack06
import Derived.Test.YthdpnpckmoffaaaGreatMoveBack07
import Derived.Test.YthdpnpckmoffaaaGreatMoveBack08
import Derived.Test.YthdpnpckmoffaaaGreatMoveBack09
set_option linter.unusedVariables false
set_option linter.unusedSimpArgs false
set_option linter.unusedSectionVars false
set_option maxRecDepth 100000
namespace Go.PT
def allP (n : Nat) : List Int := (List.range n).map (fun k : Nat => (k : Int))
theorem mem_allP {n : Nat} {i : Int} : i ∈ allP n ↔ 0 ≤ i ∧ i < n := by
  unfold allP
  rw [List.mem_map]
  constructor
  · rintro ⟨k, h, rfl⟩
    have := List.mem_range.mp h
    omega
  · rintro ⟨h0, h1⟩
    exact ⟨i.toNat, List.mem_range.mpr (by omega), by omega⟩
theorem allP_nodup (n : Nat) : (allP n).Nodup := by
  unfold allP
  exact List.Pairwise.map _ (fun a b h e => h (by have : (a : Int) = b := e; omega)) List.nodup_range
structure PgC (p : Pg) (m : Mc) : Prop where
  rooms1 : 1 ≤ m.pages.length
  rooms2 : m.pages.length ≤ 4
  cells1 : 14 ≤ m.cells
  cells2 : m.cells ≤ 60
  perm : m.order.Perm (allP m.pages.length)
  empty : ∀ i : Int, 0 ≤ i → i < m.pages.length → nF m i = 0 → (pnAt m i).base = -1
  full : ∀ i : Int, 0 ≤ i → i < m.pages.length → fullP p (pnAt m i).frames ≤ m.cells
  left : ∀ t : Int, 0 ≤ t → t < m.twins.length → 0 ≤ (twAt m t).page → (twAt m t).left = call0
  at0 : ∀ t : Int, 0 ≤ t → t < m.twins.length → (twAt m t).page < 0 → (twAt m t).at' = 0
structure SimC (p : Pg) (m : Mc) (h : Hp) (ix : Sp → Int) : Prop where
  wf : WF m
  img : Img m h.calls ix
  pg : PgC p m
  said : m.said = h.said
  code : m.code = h.code
  born : m.born = h.born
  cover : ∀ i : Int, 0 ≤ i → i < h.calls.length → (callAt h.calls i).dead = false → ∃ s, InM m s ∧ ix s = i
structure TopI (m : Mc) (h : Hp) (ix : Sp → Int) : Prop where
  now1 : -1 ≤ m.now
  now2 : m.now < m.pages.length
  neg : m.now < 0 → h.now < 0
  top : 0 ≤ m.now → 0 < nF m m.now ∧ m.order.getLast? = some m.now ∧ ix (spAt m m.now (topK m)) = h.now
structure SimM (p : Pg) (m : Mc) (h : Hp) (ix : Sp → Int) : Prop extends SimC p m h ix, TopI m h ix
section
variable {p : Pg} {m : Mc} {h : Hp} {ix : Sp → Int}
theorem TopI.pos (T : TopI m h ix) (h0 : 0 ≤ h.now) : 0 ≤ m.now := by
  rcases Int.lt_or_le m.now 0 with h1 | h1
  · have := T.neg h1; omega
  · exact h1
def ixO (ix : Sp → Int) (s : Option Sp) : Int := match s with | none => -1 | some b => ix b
theorem Img.snd (I : Img m h.calls ix) {s : Sp} (hs : InM m s) : (callAt h.calls (ix s)).sender = ixO ix (sndOf m s) := by rw [I.is s hs]; rfl
theorem Img.dead (I : Img m h.calls ix) {s : Sp} (hs : InM m s) : (callAt h.calls (ix s)).dead = (clOf m s).dead := by rw [I.is s hs]; rfl
theorem way_from {cs : List Cl} {x : Int} : ∀ {l : List Int} {a : Int}, Way cs a l → x ∈ l → ∃ l1 l2, l = l1 ++ x :: l2 ∧ Way cs (callAt cs x).sender l2
  | y :: l, a, hw, hx => by
    obtain ⟨h1, h2, h3, h4, h5⟩ := hw
    rcases List.mem_cons.mp hx with rfl | hx
    · exact ⟨[], l, rfl, h5⟩
    · obtain ⟨l1, l2, e, hw2⟩ := way_from h5 hx
      exact ⟨y :: l1, l2, by rw [e]; rfl, hw2⟩
theorem HOK.sndInj (H : HOK p h) {x y : Int} (x0 : 0 ≤ x) (x1 : x < h.calls.length) (y0 : 0 ≤ y) (y1 : y < h.calls.length) (hx : (callAt h.calls x).dead = false) (hy : (callAt h.calls y).dead = false) (e : (callAt h.calls x).sender = (callAt h.calls y).sender) : x = y := by
  obtain ⟨l, hw, hcov, _⟩ := H.way
  obtain ⟨l1, l2, e1, w1⟩ := way_from hw (hcov x x0 x1 hx)
  obtain ⟨k1, k2, e2, w2⟩ := way_from hw (hcov y y0 y1 hy)
  rw [e] at w1
  have := w1.det w2
  subst this
  have e3 := e1.symm.trans e2
  have hl : l1.length = k1.length := by
    have := congrArg List.length e3
    simp at this; omega
  have := List.append_inj e3 hl
  injection this.2
theorem frame_live (W : WF m) {i k : Int} (i0 : 0 ≤ i) (i1 : i < m.pages.length) (k0 : 0 ≤ k) (k1 : k < nF m i) : (clOf m (spAt m i k)).dead = false := by rw [clOf_sp W i0 i1 k0 k1]; rfl
theorem SimC.sndInj (S : SimC p m h ix) (H : HOK p h) {s t : Sp} (hs : InM m s) (ht : InM m t) (ds : (clOf m s).dead = false) (dt : (clOf m t).dead = false) (e : sndOf m s = sndOf m t) : s = t := by
  have a := S.img.rng s hs
  have b := S.img.rng t ht
  refine S.img.inj s t hs ht (H.sndInj a.1 a.2 b.1 b.2 ?_ ?_ ?_)
  · rw [S.img.dead hs]; exact ds
  · rw [S.img.dead ht]; exact dt
  · rw [S.img.snd hs, S.img.snd ht, e]
theorem SimC.isLast (S : SimC p m h ix) (H : HOK p h) {t : Int} (t0 : 0 ≤ t) (t1 : t < m.twins.length) (hp : 0 ≤ (twAt m t).page) {s : Sp} (hs : InM m s) (ds : (clOf m s).dead = false) (e : sndOf m s = some (twSp t))
    (hne : ∀ q : Int, 0 < q → q < nF m (twAt m t).page → s ≠ spAt m (twAt m t).page q) : (twAt m t).at' = nF m (twAt m t).page - 1 := by
  obtain ⟨q1, q2, q3, q4⟩ := (S.wf.tF t t0 t1).2 hp
  rcases Int.lt_or_le (twAt m t).at' (nF m (twAt m t).page - 1) with hlt | hge
  · have hsp : spAt m (twAt m t).page (twAt m t).at' = twSp t := by unfold spAt; rw [q4, if_pos t0]
    have hk : (twAt m t).at' + 1 < nF m (twAt m t).page := by omega
    have e2 : sndOf m (spAt m (twAt m t).page ((twAt m t).at' + 1)) = some (twSp t) := by
      rw [sndOf_sp S.wf hp q1 (by omega) hk, if_pos (by omega), show (twAt m t).at' + 1 - 1 = (twAt m t).at' by omega, hsp]
    have := S.sndInj H hs (in_sp S.wf hp q1 (by omega) hk) ds (frame_live S.wf hp q1 (by omega) hk) (e.trans e2.symm)
    exact absurd this (hne _ (by omega) hk)
  · omega
theorem size_range (hp : progOk p = true) (k : Int) : 10 ≤ sizeF p k ∧ sizeF p k ≤ 14 := by
  unfold sizeF
  have : 0 ≤ (methAt p k).temps ∧ (methAt p k).temps ≤ 4 := by
    unfold methAt
    rw [List.getD_eq_getElem?_getD]
    rcases Nat.lt_or_ge k.toNat p.length with h | h
    · rw [List.getElem?_eq_getElem h]
      have h2 := prog_meth hp (i := (k.toNat : Int)) (by omega) (by omega)
      have h3 := methOk_iff.mp h2
      unfold methAt at h3
      rw [Int.toNat_natCast, List.getD_eq_getElem?_getD, List.getElem?_eq_getElem h] at h3
      have a := h3.a0
      have b := h3.t0
      have c := h3.t1
      exact ⟨by omega, c⟩
    · rw [List.getElem?_eq_none h]; exact ⟨by show (0 : Int) ≤ 0; omega, by show (0 : Int) ≤ 4; omega⟩
  omega
theorem fullP_one {f : Fm} : fullP p [f] = sizeF p f.method := by unfold fullP; simp
end
end Go.PT
namespace Go.PT
section
variable {p : Pg} {m : Mc} {h : Hp} {ix : Sp → Int}
theorem SimC.nowM (S : SimC p m h ix) (k n : Int) : SimC p { m with now := k } { h with now := n } ix :=
  ⟨S.wf.same rfl rfl, S.img.same rfl rfl, ⟨S.pg.rooms1, S.pg.rooms2, S.pg.cells1, S.pg.cells2, S.pg.perm, S.pg.empty, S.pg.full, S.pg.left, S.pg.at0⟩, S.said, S.code, S.born, S.cover⟩
theorem SimC.load (S : SimC p m h ix) (hp : progOk p = true) {t i : Int} (i0 : 0 ≤ i) (i1 : i < m.pages.length) (t0 : 0 ≤ t) (t1 : t < m.twins.length) (hpg : (twAt m t).page < 0) (hd : (twAt m t).left.dead = false) (hn : nF m i = 0) :
    SimC p (loadM m t i) h ix ∧ (loadM m t i).pages.length = m.pages.length ∧ nF (loadM m t i) i = 1 ∧ spAt (loadM m t i) i 0 = twSp t := by
  obtain ⟨W, I⟩ := loadM_spec S.wf S.img i0 i1 t0 t1 hpg hd hn
  have hpn : ∀ j : Int, 0 ≤ j → pnAt (loadM m t i) j = if j = i then ⟨(twAt m t).left.sender, [clFm (twAt m t).left t]⟩ else pnAt m j := fun j hj => pnAt_put (m := m) i0 i1 hj
  have hlen : (loadM m t i).pages.length = m.pages.length := putPn_len
  have hT : (loadM m t i).twins.length = m.twins.length := putTw_len (m := putPn m i _)
  have htw : ∀ u : Int, 0 ≤ u → twAt (loadM m t i) u = if u = t then ⟨i, 0, call0⟩ else twAt m u := fun u hu => twAt_put (m := putPn m i ⟨(twAt m t).left.sender, [clFm (twAt m t).left t]⟩) t0 t1 hu
  have hnfi : nF (loadM m t i) i = 1 := by unfold nF; rw [hpn i i0, if_pos rfl]; rfl
  have hfi : fmAt (loadM m t i) i 0 = clFm (twAt m t).left t := by unfold fmAt; rw [hpn i i0, if_pos rfl]; rfl
  have hsp : spAt (loadM m t i) i 0 = twSp t := by
    unfold spAt; rw [hfi]; exact if_pos t0
  refine ⟨⟨W, I, ⟨by rw [hlen]; exact S.pg.rooms1, by rw [hlen]; exact S.pg.rooms2, S.pg.cells1, S.pg.cells2, by rw [hlen]; exact S.pg.perm, fun j a b c => ?_, fun j a b => ?_, fun u a b c => ?_, fun u a b c => ?_⟩, S.said, S.code, S.born, fun x x0 x1 hx => ?_⟩, hlen, hnfi, hsp⟩
  · rw [hlen] at b
    by_cases hj : j = i
    · rw [hj, hnfi] at c; omega
    · have : nF m j = 0 := by unfold nF at c ⊢; rw [hpn j a, if_neg hj] at c; exact c
      rw [hpn j a, if_neg hj]
      exact S.pg.empty j a b this
  · rw [hlen] at b
    rw [hpn j a]
    split
    · show fullP p [clFm (twAt m t).left t] ≤ m.cells
      rw [fullP_one]
      have := (size_range hp (clFm (twAt m t).left t).method).2
      have := S.pg.cells1
      omega
    · exact S.pg.full j a b
  · rw [hT] at b
    rw [htw u a] at c ⊢
    split
    · rfl
    · rename_i e; rw [if_neg e] at c; exact S.pg.left u a b c
  · rw [hT] at b
    rw [htw u a] at c ⊢
    split
    · rfl
    · rename_i e; rw [if_neg e] at c; exact S.pg.at0 u a b c
  · obtain ⟨s, hs, e⟩ := S.cover x x0 x1 hx
    refine ⟨s, ?_, e⟩
    rcases hs with ⟨a, b, c, d⟩ | ⟨a, b, c, d, f, g⟩
    · exact .inl ⟨a, by rw [hT]; exact b, c, d⟩
    · have hj : s.page ≠ i := fun e => by rw [e, hn] at f; omega
      refine .inr ⟨a, b, by rw [hlen]; exact c, d, ?_, ?_⟩
      · unfold nF; rw [hpn _ b, if_neg hj]; exact f
      · unfold fmAt; rw [hpn _ b, if_neg hj]; exact g
end
end Go.PT
namespace Go.PT
section
variable {p : Pg} {m : Mc} {h : Hp} {ix : Sp → Int}
def Ref (m : Mc) (v : V) : Prop := v.1 = 2 → 0 ≤ v.2 ∧ v.2 < m.twins.length
structure AtTop (m : Mc) (h : Hp) (ix : Sp → Int) : Prop where
  m0 : 0 ≤ m.now
  m1 : m.now < m.pages.length
  k0 : 0 ≤ topK m
  k1 : topK m < nF m m.now
  ix' : ix (spAt m m.now (topK m)) = h.now
theorem SimM.at (S : SimM p m h ix) (h0 : 0 ≤ h.now) : AtTop m h ix := by
  have m0 := S.toTopI.pos h0
  obtain ⟨n0, hl, hix⟩ := S.top m0
  exact ⟨m0, S.now2, by unfold topK; omega, by unfold topK; omega, hix⟩
theorem nm0 : nmV ix (0, 0) = (0, 0) := rfl
theorem nm_fst (v : V) : (nmV ix v).1 = v.1 := by unfold nmV; split <;> rfl
theorem nm_ne {v : V} (h : v.1 ≠ 2) : nmV ix v = v := if_neg h
theorem SimM.negIff (S : SimM p m h ix) : m.now < 0 ↔ h.now < 0 := by
  refine ⟨S.neg, fun hn => ?_⟩
  rcases Int.lt_or_le m.now 0 with h1 | h1
  · exact h1
  · obtain ⟨n0, _, hix⟩ := S.top h1
    have := S.img.rng _ (in_sp S.wf h1 S.now2 (k := topK m) (by unfold topK; omega) (by unfold topK; omega))
    omega
end
end Go.PT
namespace Go.PT
theorem nowC_put {h : Hp} {c : Cl} (h0 : 0 ≤ h.now) (h1 : h.now < h.calls.length) : nowC (putC h h.now c) = c := by
  unfold nowC
  show callAt (putC h h.now c).calls h.now = c
  rw [callAt_put h0 h1 h0, if_pos rfl]
end Go.PT
namespace Go.PT
section
variable {p : Pg} {m : Mc} {h : Hp} {ix : Sp → Int}
theorem plP_tw {t : Int} (t0 : 0 ≤ t) : plP m (twSp t) = (twAt m t).page ∧ plK m (twSp t) = (twAt m t).at' := by
  unfold plP plK twSp
  simp only
  rw [if_neg (by omega), if_neg (by omega)]
  exact ⟨rfl, rfl⟩
theorem clOf_off {t : Int} (t0 : 0 ≤ t) (hp : (twAt m t).page < 0) : clOf m (twSp t) = (twAt m t).left := by
  unfold clOf; rw [(plP_tw t0).1, if_pos hp]; rfl
theorem sndOf_off {t : Int} (t0 : 0 ≤ t) (hp : (twAt m t).page < 0) : sndOf m (twSp t) = toSp (twAt m t).left.sender := by
  unfold sndOf; rw [(plP_tw t0).1, if_pos hp]; rfl
end
end Go.PT
namespace Go.PT
section
variable {p : Pg} {m : Mc} {h : Hp} {ix : Sp → Int}
def imR (m : Mc) (ix : Sp → Int) : Sp → Int → Prop := fun s i => InM m s ∧ ix s = i
theorem val_rel (W : WF m) {l : List V} (hl : ∀ v ∈ l, Ref m v) : RL (RV (imR m ix) twSp (fun n => n)) l (l.map (nmV ix)) := by
  refine RL.of (by simp) (fun i a b ha hb => ?_)
  rw [List.getElem?_map, ha] at hb
  obtain rfl := Option.some.inj hb
  have hr := hl a (List.mem_of_getElem? ha)
  refine ⟨(nm_fst a).symm, fun e => ?_, fun e => ?_⟩
  · obtain ⟨t0, t1⟩ := hr e
    refine ⟨in_tw t0 t1, ?_⟩
    unfold nmV; rw [if_pos e]
  · rw [nm_ne e]
theorem SimM.iso (S : SimM p m h ix) : Iso (GM m) (GH h) (imR m ix) := by
  refine iso_of ⟨fun {a b c} r r' => r.2.symm.trans r'.2, fun {a b c} r r' => S.img.inj _ _ r.1 r'.1 (r.2.trans r'.2.symm)⟩ (fun s i r => ?_) ?_
  · obtain ⟨hs, rfl⟩ := r
    have e := S.img.is s hs
    have hv : ∀ v ∈ (clOf m s).temps ++ (clOf m s).stack, Ref m v := fun v hv e => val_in S.wf hs v hv e
    refine ⟨?_, ?_, ?_, ?_, ?_, ?_⟩
    · show (clOf m s).method = (callAt h.calls (ix s)).method; rw [e]; rfl
    · show (clOf m s).pc = (callAt h.calls (ix s)).pc; rw [e]; rfl
    · show (clOf m s).dead = (callAt h.calls (ix s)).dead; rw [e]; rfl
    · show RL _ (clOf m s).temps (callAt h.calls (ix s)).temps
      rw [e]
      exact val_rel S.wf (fun v h => hv v (List.mem_append.mpr (.inl h)))
    · show RL _ (clOf m s).stack (callAt h.calls (ix s)).stack
      rw [e]
      exact val_rel S.wf (fun v h => hv v (List.mem_append.mpr (.inr h)))
    · show RO _ (sndOf m s) (if (callAt h.calls (ix s)).sender < 0 then none else some (callAt h.calls (ix s)).sender)
      rw [S.img.snd hs]
      cases hb : sndOf m s with
      | none => rw [if_pos (by show (-1 : Int) < 0; decide)]; trivial
      | some b =>
        have hbin := snd_in S.wf hs hb
        have := S.img.rng b hbin
        show RO _ (some b) (if ix b < 0 then none else some (ix b))
        rw [if_neg (by omega)]
        exact ⟨hbin, rfl⟩
  · show RO _ (topSp m) (if h.now < 0 then none else some h.now)
    unfold topSp
    by_cases hn : h.now < 0
    · rw [if_pos hn, if_neg (fun e => by have := S.negIff.mpr hn; omega)]; trivial
    · have A := S.at (by omega)
      have hf : (pnAt m m.now).frames ≠ [] := fun e => by
        have := (S.top A.m0).1
        unfold nF at this
        rw [e] at this; simp at this
      rw [if_neg hn, if_pos ⟨A.m0, A.m1, hf⟩]
      exact ⟨in_sp S.wf A.m0 A.m1 A.k0 A.k1, A.ix'⟩
theorem SimM.view (S : SimM p m h ix) (n : Nat) : view (GM m) n = view (GH h) n := view_rel S.iso n
theorem SimM.gok (S : SimM p m h ix) (H : HOK p h) : GOK p (GM m) (InM m) :=
  (gok_of_hok H).iso S.iso.flip (fun s hs => ⟨ix s, ⟨hs, rfl⟩, S.img.rng s hs⟩) (fun i s r _ => r.1)
theorem valOk_back {v : V} (hv : Ref m v) (hk : valOk h.calls.length (nmV ix v) = true) : valOk m.twins.length v = true := by
  rcases valOk_kind hk with h0 | h0 | h0 <;> rw [nm_fst] at h0
  · have := valOk_none hk (by rw [nm_fst]; exact h0)
    rw [nm_ne (by omega)] at this
    unfold valOk; rw [if_pos h0]; simpa using this
  · have := valOk_num hk (by rw [nm_fst]; exact h0)
    rw [nm_ne (by omega)] at this
    unfold valOk; rw [if_neg (by omega), if_pos h0, inB_iff]; exact this
  · obtain ⟨t0, t1⟩ := hv h0
    unfold valOk; rw [if_neg (by omega), if_neg (by omega), if_pos h0, inB_iff]; omega
theorem SimM.formOf (S : SimM p m h ix) (H : HOK p h) {s : Sp} (hs : InM m s) {c : Cl} (hc : clOf m s = c) (sd : Int) (hsd : -1 ≤ sd ∧ sd < m.twins.length) (hdead : c.dead = true → sd = -1) : FormP p m.twins.length { c with sender := sd } := by
  have r := S.img.rng s hs
  have f := H.at r.1 r.2
  rw [S.img.is s hs, hc] at f
  have hv : ∀ v ∈ c.temps ++ c.stack, Ref m v := fun v hv e => val_in S.wf hs v (by rw [hc]; exact hv) e
  refine ⟨f.m0, f.m1, f.pc0, f.pc1, ?_, ?_, hsd.1, hsd.2, fun v hv' => ?_, fun v hv' => ?_, fun hd => ⟨hdead hd, ?_⟩⟩
  · have := f.temps
    unfold rnm at this
    simpa using this
  · have := f.stack
    unfold rnm at this
    simpa using this
  · exact valOk_back (hv v (List.mem_append.mpr (.inl hv'))) (f.tv _ (List.mem_map.mpr ⟨v, hv', rfl⟩))
  · exact valOk_back (hv v (List.mem_append.mpr (.inr hv'))) (f.sv _ (List.mem_map.mpr ⟨v, hv', rfl⟩))
  · have := (f.dead hd).2
    unfold rnm at this
    simpa using this
theorem allP_len (n : Nat) : (allP n).length = n := by unfold allP; simp
theorem SimC.ntw (S : SimC p m h ix) : m.twins.length ≤ h.calls.length := by
  have := length_le_of_sub (l := (allP m.twins.length).map (fun t => ix (twSp t))) (m := allP h.calls.length) ?_ ?_
  · rw [List.length_map, allP_len, allP_len] at this; exact this
  · refine List.Pairwise.map _ (R := fun a b : Int => (0 ≤ a ∧ a < m.twins.length) ∧ (0 ≤ b ∧ b < m.twins.length) ∧ a ≠ b) (fun a b ⟨ha, hb, hne⟩ e => hne ?_) ?_
    · exact congrArg Sp.twin (S.img.inj _ _ (in_tw ha.1 ha.2) (in_tw hb.1 hb.2) e)
    · exact List.Pairwise.imp_of_mem (fun ha hb hne => ⟨mem_allP.mp ha, mem_allP.mp hb, hne⟩) (allP_nodup _)
  · intro x hx
    obtain ⟨t, ht, rfl⟩ := List.mem_map.mp hx
    have := mem_allP.mp ht
    exact mem_allP.mpr (S.img.rng _ (in_tw this.1 this.2))
theorem SimM.mok (S : SimM p m h ix) (H : HOK p h) : MOK p m := by
  have hb := S.born
  have hn := S.toSimC.ntw
  have hsz := H.size
  refine ⟨H.prog, S.pg.rooms1, S.pg.rooms2, S.pg.cells1, S.pg.cells2, by rw [S.pg.perm.length_eq, allP_len], fun i i0 i1 => S.pg.perm.mem_iff.mpr (mem_allP.mpr ⟨i0, i1⟩), S.now1, S.now2, fun h0 => ⟨fun e => ?_, (S.top h0).2.1⟩, by rw [hb]; exact H.born1, by rw [hb]; exact H.born2, by rw [S.code]; exact H.code1, by rw [S.code]; exact H.code2, by rw [S.said]; exact H.said,
    by rw [S.code, S.negIff]; exact H.ended, by omega, fun i i0 i1 => ?_, fun t t0 t1 => ?_, (S.gok H).way⟩
  · have := (S.top h0).1
    unfold nF at this
    rw [e] at this; simp at this
  · have hbs := S.wf.base i i0 i1
    refine ⟨hbs.1, hbs.2, fun e => S.pg.empty i i0 i1 (by unfold nF; rw [e]; rfl), fun k k0 k1 => ⟨?_, (S.wf.fT i k i0 i1 k0 k1).1, (S.wf.fT i k i0 i1 k0 k1).2.1⟩, fun k k0 k1 ht => (S.wf.fT i k i0 i1 k0 k1).2.2 ht, S.pg.full i i0 i1, fun b0 bp => ?_⟩
    · exact S.formOf H (in_sp S.wf i0 i1 k0 k1) (clOf_sp S.wf i0 i1 k0 k1) (-1) ⟨by omega, by omega⟩ (fun e => by cases e)
    · have hn0 : 0 < nF m i := by
        rcases Int.lt_or_le 0 (nF m i) with h | h
        · exact h
        · have := S.pg.empty i i0 i1 (by unfold nF at h ⊢; omega); omega
      refine S.toSimC.isLast H b0 hbs.2 bp (in_sp S.wf i0 i1 (Int.le_refl _) hn0) (frame_live S.wf i0 i1 (Int.le_refl _) hn0) ?_ (fun q q0 q1 e => ?_)
      · rw [sndOf_sp S.wf i0 i1 (Int.le_refl _) hn0, if_neg (by omega)]
        exact if_neg (by omega)
      · have hq := (S.wf.tF _ b0 hbs.2).2 bp
        have := sp_inj S.wf i0 i1 (Int.le_refl _) hn0 bp hq.1 (by omega) q1 e
        omega
  · have ht := S.wf.tF t t0 t1
    refine ⟨fun hp => ⟨by omega, S.pg.at0 t t0 t1 hp, ?_⟩, fun hp => ?_⟩
    · have hs := S.wf.snd t t0 t1 hp
      have := S.formOf H (in_tw t0 t1) (clOf_off t0 hp) (twAt m t).left.sender hs (fun hd => by
        have r := S.img.rng _ (in_tw t0 t1)
        have f := H.at r.1 r.2
        have e := S.img.snd (in_tw t0 t1)
        have hd2 : (callAt h.calls (ix (twSp t))).dead = true := by rw [S.img.dead (in_tw t0 t1), clOf_off t0 hp]; exact hd
        rw [(f.dead hd2).1, sndOf_off t0 hp] at e
        unfold toSp at e
        split at e
        · omega
        · have := S.img.rng _ (in_tw (by omega) hs.2)
          have e : -1 = ix (twSp (twAt m t).left.sender) := e
          omega)
      exact this
    · obtain ⟨q1, q2, q3, q4⟩ := ht.2 hp
      exact ⟨q1, q2, q3, q4, S.pg.left t t0 t1 hp⟩
theorem allP_map {α : Type} (l : List α) (d : α) : (allP l.length).map (fun i => l.getD i.toNat d) = l := by
  refine List.ext_getElem? fun n => ?_
  unfold allP
  rw [List.map_map, List.getElem?_map]
  rcases Nat.lt_or_ge n l.length with h | h
  · rw [List.getElem?_range h, List.getElem?_eq_getElem h]
    simp [List.getD_eq_getElem?_getD, h]
  · rw [List.getElem?_eq_none (by simpa using h), List.getElem?_eq_none h]; rfl
def framesS (m : Mc) : List Sp := (allP m.pages.length).flatMap (fun i => (allP (nF m i).toNat).map (spAt m i))
def offS (m : Mc) : List Sp := ((allP m.twins.length).filter (fun t => decide ((twAt m t).page < 0) && !(twAt m t).left.dead)).map twSp
def liveS (m : Mc) : List Sp := framesS m ++ offS m
theorem framesS_len : ((framesS m).length : Int) = framesN m := by
  unfold framesS framesN
  have e : (m.pages.map (fun g => (g.frames.length : Int))) = (allP m.pages.length).map (fun i => nF m i) := by
    conv => lhs; rw [← allP_map m.pages pn0]
    rw [List.map_map]; rfl
  rw [e]
  generalize allP m.pages.length = l
  induction l with
  | nil => rfl
  | cons i l ih =>
    rw [List.flatMap_cons, List.length_append, List.length_map, allP_len, List.map_cons, List.sum_cons, ← ih]
    have : 0 ≤ nF m i := by unfold nF; omega
    omega
theorem offS_len : ((offS m).length : Int) = offN m := by
  unfold offS offN
  have e : m.twins = (allP m.twins.length).map (twAt m) := (allP_map m.twins tw0).symm
  conv => rhs; rw [e]
  rw [List.filter_map, List.length_map, List.length_map]
  rfl
theorem liveS_len : ((liveS m).length : Int) = liveM m := by
  unfold liveS liveM
  rw [List.length_append]
  have := framesS_len (m := m)
  have := offS_len (m := m)
  omega
theorem mem_framesS {s : Sp} : s ∈ framesS m ↔ ∃ i k : Int, (0 ≤ i ∧ i < m.pages.length) ∧ (0 ≤ k ∧ k < nF m i) ∧ spAt m i k = s := by
  unfold framesS
  rw [List.mem_flatMap]
  constructor
  · rintro ⟨i, hi, hs⟩
    obtain ⟨k, hk, rfl⟩ := List.mem_map.mp hs
    have := mem_allP.mp hk
    have h0 : 0 ≤ nF m i := by unfold nF; omega
    exact ⟨i, k, mem_allP.mp hi, ⟨this.1, by omega⟩, rfl⟩
  · rintro ⟨i, k, hi, hk, rfl⟩
    exact ⟨i, mem_allP.mpr hi, List.mem_map.mpr ⟨k, mem_allP.mpr ⟨hk.1, by omega⟩, rfl⟩⟩
theorem mem_offS {s : Sp} : s ∈ offS m ↔ ∃ t : Int, (0 ≤ t ∧ t < m.twins.length) ∧ (twAt m t).page < 0 ∧ (twAt m t).left.dead = false ∧ twSp t = s := by
  unfold offS
  rw [List.mem_map]
  constructor
  · rintro ⟨t, ht, rfl⟩
    rw [List.mem_filter, Bool.and_eq_true, decide_eq_true_eq, Bool.not_eq_true'] at ht
    exact ⟨t, mem_allP.mp ht.1, ht.2.1, ht.2.2, rfl⟩
  · rintro ⟨t, h1, h2, h3, rfl⟩
    refine ⟨t, ?_, rfl⟩
    rw [List.mem_filter, Bool.and_eq_true, decide_eq_true_eq, Bool.not_eq_true']
    exact ⟨mem_allP.mpr h1, h2, h3⟩
theorem mem_liveS (W : WF m) {s : Sp} : s ∈ liveS m ↔ InM m s ∧ (clOf m s).dead = false := by
  unfold liveS
  rw [List.mem_append, mem_framesS, mem_offS]
  constructor
  · rintro (⟨i, k, hi, hk, rfl⟩ | ⟨t, ht, hp, hd, rfl⟩)
    · exact ⟨in_sp W hi.1 hi.2 hk.1 hk.2, frame_live W hi.1 hi.2 hk.1 hk.2⟩
    · exact ⟨in_tw ht.1 ht.2, by rw [clOf_off ht.1 hp]; exact hd⟩
  · rintro ⟨hs, hd⟩
    rcases place W hs with ⟨h1, h2, h3, h4, h5⟩ | ⟨h1, h2, h3, h4, h5⟩
    · right
      rw [h4, clOf_off h2 (by omega)] at hd
      exact ⟨s.twin, ⟨h2, h3⟩, by omega, hd, h4.symm⟩
    · exact .inl ⟨_, _, ⟨h1, h2⟩, ⟨h3, h4⟩, h5⟩
theorem liveS_nodup (W : WF m) : (liveS m).Nodup := by
  unfold liveS
  refine List.nodup_append.mpr ⟨?_, ?_, fun a ha b hb e => ?_⟩
  · unfold framesS
    refine List.pairwise_flatMap.mpr ⟨fun i hi => ?_, ?_⟩
    · have hi := mem_allP.mp hi
      refine List.Pairwise.map _ (R := fun a b : Int => (0 ≤ a ∧ a < nF m i) ∧ (0 ≤ b ∧ b < nF m i) ∧ a ≠ b) (fun a b ⟨ha, hb, hne⟩ e => hne ?_) ?_
      · exact (sp_inj W hi.1 hi.2 ha.1 ha.2 hi.1 hi.2 hb.1 hb.2 e).2
      · have hn : 0 ≤ nF m i := by unfold nF; omega
        exact List.Pairwise.imp_of_mem (fun ha hb hne => ⟨⟨(mem_allP.mp ha).1, by have := (mem_allP.mp ha).2; omega⟩, ⟨(mem_allP.mp hb).1, by have := (mem_allP.mp hb).2; omega⟩, hne⟩) (allP_nodup _)
    · refine List.Pairwise.imp_of_mem (fun {i j} hi hj hne => ?_) (allP_nodup _)
      have hi := mem_allP.mp hi
      have hj := mem_allP.mp hj
      intro s h1 s2 h2 e
      obtain ⟨k, hk, rfl⟩ := List.mem_map.mp h1
      obtain ⟨q, hq, e3⟩ := List.mem_map.mp h2
      rw [← e3] at e
      have hk := mem_allP.mp hk
      have hq := mem_allP.mp hq
      have n1 : 0 ≤ nF m i := by unfold nF; omega
      have n2 : 0 ≤ nF m j := by unfold nF; omega
      exact hne (sp_inj W hi.1 hi.2 hk.1 (by omega) hj.1 hj.2 hq.1 (by omega) e).1
  · unfold offS
    exact List.Pairwise.map _ (fun a b h e => h (congrArg Sp.twin e)) ((allP_nodup _).filter _)
  · obtain ⟨i, k, hi, hk, rfl⟩ := mem_framesS.mp ha
    obtain ⟨t, ht, hp, hd, rfl⟩ := mem_offS.mp hb
    have := pl_sp W hi.1 hi.2 hk.1 hk.2
    rw [e, (plP_tw ht.1).1] at this
    omega
end
end Go.PT
namespace Go.PT
section
variable {p : Pg}
def newH (p : Pg) : Hp := ⟨[newC p 0 [] (-1)], 0, 1, [], 0⟩
theorem newH_ok (hp : progOk p = true) : HOK p (newH p) := by
  have hl := prog_len hp
  have hm := methOk_iff.mp (prog_meth hp (i := 0) (by omega) (by omega))
  have ha : (methAt p 0).args = 0 := by
    unfold progOk at hp
    simp only [Bool.and_eq_true, decide_eq_true_eq] at hp
    exact hp.2.1
  have hc : callAt (newH p).calls 0 = newC p 0 [] (-1) := rfl
  have hln : (newH p).calls.length = 1 := rfl
  refine ⟨hp, by show (-1 : Int) ≤ 0; omega, by show (0 : Int) < 1; omega, by show (1 : Int) ≤ 1; omega, by show (1 : Int) ≤ 30; omega, by show ((1 : Nat) : Int) ≤ 1; omega, by show (0 : Int) ≤ 0; omega, by show (0 : Int) ≤ 3; omega, rfl, ⟨fun e => by have e : (0 : Int) = 1 := e; omega, fun e => by have e : (0 : Int) < 0 := e; omega⟩, fun c hc => ?_, [0], ⟨rfl, by omega, by show (0 : Int) < 1; omega, rfl, by show (-1 : Int) < 0; omega⟩, fun x x0 x1 _ => ?_, fun x hx => by cases hx⟩
  · have : c = newC p 0 [] (-1) := by
      have hc : c ∈ [newC p 0 [] (-1)] := hc
      simpa using hc
    subst this
    have h0 := hm.t0
    have h1 := hm.a0
    refine form_iff.mpr ⟨by show (0 : Int) ≤ 0; omega, by show (0 : Int) < p.length; omega, by show (0 : Int) ≤ 0; omega, by show (0 : Int) ≤ _; omega, ?_, by show ((0 : Nat) : Int) ≤ 6; omega, by show (-1 : Int) ≤ -1; omega, by show (-1 : Int) < 1; omega, fun v hv => ?_, fun v hv => (by cases hv), fun e => (by cases e)⟩
    · show (([] ++ List.replicate ((methAt p 0).temps - ([] : List V).length).toNat ((0, 0) : V)).length : Int) = (methAt p 0).temps
      rw [List.nil_append, List.length_replicate]
      show (((methAt p 0).temps - 0).toNat : Int) = _
      omega
    · have hv : v ∈ [] ++ List.replicate ((methAt p 0).temps - ([] : List V).length).toNat ((0, 0) : V) := hv
      rw [List.nil_append] at hv
      rw [(List.mem_replicate.mp hv).2]
      unfold valOk; simp
  · have x1 : x < 1 := x1
    have : x = 0 := by omega
    subst this; simp
end
end Go.PT
namespace Go.PT
section
variable {p : Pg} {m : Mc} {h : Hp} {ix : Sp → Int}
def orderN (rooms : Nat) : List Int := (List.range rooms).map (fun i : Nat => ((i : Int) + 1).tmod rooms)
def bareM (rooms : Nat) (cells : Int) : Mc := ⟨cells, List.replicate rooms ⟨-1, []⟩, orderN rooms, 0, [], 1, [], 0⟩
def newM (p : Pg) (rooms : Nat) (cells : Int) : Mc := { bareM rooms cells with pages := (List.replicate rooms (⟨-1, []⟩ : Pn)).set 0 ⟨-1, [newF p 0 []]⟩ }
theorem orderN_perm {rooms : Nat} (h1 : 1 ≤ rooms) (h2 : rooms ≤ 4) : (orderN rooms).Perm (allP rooms) ∧ (orderN rooms).getLast? = some 0 := by
  have : rooms = 1 ∨ rooms = 2 ∨ rooms = 3 ∨ rooms = 4 := by omega
  rcases this with rfl | rfl | rfl | rfl <;> exact ⟨by decide, by decide⟩
theorem rep_getD {α : Type} {n : Nat} {a d : α} {i : Int} (i0 : 0 ≤ i) (i1 : i < n) : (List.replicate n a).getD i.toNat d = a := by
  rw [List.getD_eq_getElem?_getD, List.getElem?_replicate, if_pos (by omega)]; rfl
theorem newM_pn {rooms : Nat} {cells : Int} {i : Int} (i0 : 0 ≤ i) (i1 : i < rooms) : pnAt (newM p rooms cells) i = if i = 0 then ⟨-1, [newF p 0 []]⟩ else ⟨-1, []⟩ := by
  have := getD_set (l := List.replicate rooms (⟨-1, []⟩ : Pn)) (i := 0) (j := i) (a := ⟨-1, [newF p 0 []]⟩) (d := pn0) (Int.le_refl _) (by simp; omega) i0
  unfold pnAt newM
  simp only
  rw [show (0 : Nat) = (0 : Int).toNat from rfl, this]
  split
  · rfl
  · exact rep_getD i0 i1
theorem newM_len {rooms : Nat} {cells : Int} : (newM p rooms cells).pages.length = rooms := by unfold newM; simp
theorem new_sim (hp : progOk p = true) {rooms : Nat} {cells : Int} (r1 : 1 ≤ rooms) (r2 : rooms ≤ 4) (c1 : 14 ≤ cells) (c2 : cells ≤ 60) : SimM p (newM p rooms cells) (newH p) (fun _ => 0) := by
  have hlen : (newM p rooms cells).pages.length = rooms := newM_len
  have hpn := fun {i : Int} (a : 0 ≤ i) (b : i < rooms) => newM_pn (p := p) (cells := cells) a b
  have hT : (newM p rooms cells).twins = [] := rfl
  have hnf : ∀ i : Int, 0 ≤ i → i < rooms → nF (newM p rooms cells) i = if i = 0 then 1 else 0 := fun i a b => by
    unfold nF; rw [hpn a b]; split <;> rfl
  have hf0 : fmAt (newM p rooms cells) 0 0 = newF p 0 [] := by unfold fmAt; rw [hpn (Int.le_refl _) (by omega), if_pos rfl]; rfl
  have one : ∀ i k : Int, 0 ≤ i → i < rooms → 0 ≤ k → k < nF (newM p rooms cells) i → i = 0 ∧ k = 0 := fun i k a b c d => by
    rw [hnf i a b] at d
    split at d
    · exact ⟨by assumption, by omega⟩
    · omega
  obtain ⟨o1, o2⟩ := orderN_perm r1 r2
  have hin : ∀ s, InM (newM p rooms cells) s → s = ⟨-1, 0, 0⟩ := fun s hs => by
    rcases hs with ⟨a, b, _⟩ | ⟨a, b, c, d, e, _⟩
    · rw [hT] at b; simp at b; omega
    · rw [hlen] at c
      obtain ⟨e1, e2⟩ := one _ _ b c d e
      cases s
      simp only at *
      subst a e1 e2; rfl
  have hin0 : InM (newM p rooms cells) ⟨-1, 0, 0⟩ := .inr ⟨rfl, Int.le_refl _, by rw [hlen]; show (0 : Int) < _; omega, Int.le_refl _, by rw [hnf 0 (Int.le_refl _) (by omega)]; decide, by show (fmAt (newM p rooms cells) 0 0).twin < 0; rw [hf0]; show (-1 : Int) < 0; omega⟩
  have hcl : clOf (newM p rooms cells) ⟨-1, 0, 0⟩ = fmCl (newF p 0 []) 0 := by
    have e1 : plP (newM p rooms cells) ⟨-1, 0, 0⟩ = 0 := rfl
    have e2 : plK (newM p rooms cells) ⟨-1, 0, 0⟩ = 0 := rfl
    unfold clOf
    rw [e1, e2, hf0, if_neg (by omega)]
  have hsn : sndOf (newM p rooms cells) ⟨-1, 0, 0⟩ = none := by
    have e1 : plP (newM p rooms cells) ⟨-1, 0, 0⟩ = 0 := rfl
    have e2 : plK (newM p rooms cells) ⟨-1, 0, 0⟩ = 0 := rfl
    unfold sndOf
    rw [e1, e2, hpn (Int.le_refl _) (by omega), if_neg (by omega), if_neg (by omega), if_pos rfl]; rfl
  have hval : ∀ v ∈ (newF p 0 []).temps ++ (newF p 0 []).stack, v = (0, 0) := fun v hv => by
    have hv : v ∈ ([] ++ List.replicate ((methAt p 0).temps - ([] : List V).length).toNat ((0, 0) : V)) ++ [] := hv
    rw [List.append_nil, List.nil_append] at hv
    exact (List.mem_replicate.mp hv).2
  have empty0 : ∀ {α : Prop} {t : Int}, 0 ≤ t → t < (newM p rooms cells).twins.length → α := fun a b => by rw [hT] at b; simp at b; omega
  refine ⟨⟨⟨fun i k a b c d => ?_, fun t a b => empty0 a b, fun i a b => ?_, fun t a b => empty0 a b, fun i k a b c d v hv e => ?_, fun t a b => empty0 a b⟩, ⟨fun s hs => ⟨Int.le_refl _, by show (0 : Int) < 1; omega⟩, fun s t hs ht _ => (hin s hs).trans (hin t ht).symm, fun s hs => ?_⟩,
    ⟨by rw [hlen]; exact r1, by rw [hlen]; exact r2, c1, c2, by rw [hlen]; exact o1, fun i a b c => ?_, fun i a b => ?_, fun t a b => empty0 a b, fun t a b => empty0 a b⟩, rfl, rfl, rfl, fun i i0 i1 _ => ⟨_, hin0, ?_⟩⟩,
    ⟨by show (-1 : Int) ≤ 0; omega, by rw [hlen]; show (0 : Int) < _; omega, fun e => by have e : (0 : Int) < 0 := e; omega, fun _ => ⟨?_, o2, rfl⟩⟩⟩
  · rw [hlen] at b
    obtain ⟨rfl, rfl⟩ := one _ _ a b c d
    rw [hf0]
    exact ⟨by show (-1 : Int) ≤ -1; omega, by show (-1 : Int) < _; rw [hT]; simp, fun e => by have e : (0 : Int) ≤ -1 := e; omega⟩
  · rw [hlen] at b
    rw [hpn a b]
    split <;> exact ⟨by show (-1 : Int) ≤ -1; omega, by show (-1 : Int) < _; rw [hT]; simp⟩
  · rw [hlen] at b
    obtain ⟨rfl, rfl⟩ := one _ _ a b c d
    rw [hf0] at hv
    rw [hval v hv] at e; cases e
  · rw [hin s hs, hcl, hsn]
    show newC p 0 [] (-1) = _
    unfold rnm fmCl newF clFm newC
    simp [nm0]
  · rw [hlen] at b
    rw [hpn a b]
    split <;> rfl
  · rw [hlen] at b
    rw [hpn a b]
    have hsz := (size_range hp (newF p 0 []).method).2
    split
    · show fullP p [newF p 0 []] ≤ cells
      rw [fullP_one]; omega
    · show fullP p [] ≤ cells
      unfold fullP; simp; omega
  · have i1 : i < 1 := i1
    show (0 : Int) = i
    omega
  · show 0 < nF (newM p rooms cells) 0
    rw [hnf 0 (Int.le_refl _) (by omega)]; decide
def twinOf (c : Cl) : Tw := ⟨-1, 0, c⟩
def inM (h : Hp) (rooms : Nat) (cells : Int) : Mc := { bareM rooms cells with twins := h.calls.map twinOf, born := h.born, said := h.said, code := h.code }
def moveInM (h : Hp) (rooms : Nat) (cells : Int) : Mc := if h.now < 0 then { inM h rooms cells with now := -1 } else loadM (inM h rooms cells) h.now 0
theorem inM_tw {rooms : Nat} {cells t : Int} (t0 : 0 ≤ t) (t1 : t < h.calls.length) : twAt (inM h rooms cells) t = twinOf (callAt h.calls t) := by
  unfold twAt inM callAt
  simp only
  rw [List.getD_eq_getElem?_getD, List.getD_eq_getElem?_getD, List.getElem?_map, List.getElem?_eq_getElem (by omega)]; rfl
theorem in_sim (H : HOK p h) {rooms : Nat} {cells : Int} (r1 : 1 ≤ rooms) (r2 : rooms ≤ 4) (c1 : 14 ≤ cells) (c2 : cells ≤ 60) : SimC p (inM h rooms cells) h (fun s => s.twin) := by
  have hlen : (inM h rooms cells).pages.length = rooms := by unfold inM bareM; simp
  have hT : (inM h rooms cells).twins.length = h.calls.length := by unfold inM; simp
  have hpn : ∀ i : Int, 0 ≤ i → i < rooms → pnAt (inM h rooms cells) i = ⟨-1, []⟩ := fun i a b => rep_getD a b
  have hnf : ∀ i : Int, 0 ≤ i → i < rooms → nF (inM h rooms cells) i = 0 := fun i a b => by unfold nF; rw [hpn i a b]; rfl
  have tw := fun {t : Int} (a : 0 ≤ t) (b : t < h.calls.length) => inM_tw (rooms := rooms) (cells := cells) a b
  have hin : ∀ s, InM (inM h rooms cells) s → 0 ≤ s.twin ∧ s.twin < h.calls.length ∧ s = twSp s.twin := fun s hs => by
    rcases hs with ⟨a, b, c, d⟩ | ⟨a, b, c, d, e, _⟩
    · rw [hT] at b
      refine ⟨a, b, ?_⟩
      cases s; simp only [twSp] at *; subst c d; rfl
    · rw [hlen] at c
      rw [hnf _ b c] at e; omega
  refine ⟨⟨fun i k a b c d => ?_, fun t a b => ?_, fun i a b => ?_, fun t a b c => ?_, fun i k a b c d => ?_, fun t a b c v hv e => ?_⟩, ⟨fun s hs => ⟨(hin s hs).1, (hin s hs).2.1⟩, fun s t hs ht e => ?_, fun s hs => ?_⟩,
    ⟨by rw [hlen]; exact r1, by rw [hlen]; exact r2, c1, c2, by rw [hlen]; exact (orderN_perm r1 r2).1, fun i a b c => ?_, fun i a b => ?_, fun t a b c => ?_, fun t a b c => ?_⟩, rfl, rfl, rfl, fun i i0 i1 _ => ⟨twSp i, in_tw i0 (by rw [hT]; exact i1), rfl⟩⟩
  · rw [hlen] at b; rw [hnf i a b] at d; omega
  · rw [hT] at b
    rw [tw a b]
    exact ⟨by show (-1 : Int) ≤ -1; omega, fun e => by have e : (0 : Int) ≤ -1 := e; omega⟩
  · rw [hlen] at b
    rw [hpn i a b]
    exact ⟨by show (-1 : Int) ≤ -1; omega, by show (-1 : Int) < _; omega⟩
  · rw [hT] at b ⊢
    rw [tw a b]
    have := H.at a b
    exact ⟨this.s0, this.s1⟩
  · rw [hlen] at b; rw [hnf i a b] at d; omega
  · rw [hT] at b ⊢
    rw [tw a b] at hv
    have f := H.at a b
    rcases List.mem_append.mp hv with hv | hv
    · exact valOk_call (f.tv v hv) e
    · exact valOk_call (f.sv v hv) e
  · rw [(hin s hs).2.2, (hin t ht).2.2]
    have e : s.twin = t.twin := e
    rw [e]
  · obtain ⟨t0, t1, es⟩ := hin s hs
    generalize s.twin = t at t0 t1 es
    subst es
    have hpg : (twAt (inM h rooms cells) t).page < 0 := by rw [tw t0 t1]; show (-1 : Int) < 0; omega
    rw [clOf_off t0 hpg, sndOf_off t0 hpg, tw t0 t1]
    show callAt h.calls t = rnm (fun s => s.twin) (callAt h.calls t) (toSp (callAt h.calls t).sender)
    have hv : ∀ l : List V, l.map (nmV (fun s => s.twin)) = l := fun l => by
      have : nmV (fun s => s.twin) = id := by
        funext v; unfold nmV; split <;> rfl
      rw [this]; exact List.map_id l
    have hsd : ixO (fun s : Sp => s.twin) (toSp (callAt h.calls t).sender) = (callAt h.calls t).sender := by
      have f := (H.at t0 t1).s0
      unfold toSp
      split
      · show (-1 : Int) = _; omega
      · rfl
    show callAt h.calls t = (⟨(callAt h.calls t).method, (callAt h.calls t).pc, (callAt h.calls t).temps.map (nmV (fun s => s.twin)), (callAt h.calls t).stack.map (nmV (fun s => s.twin)), ixO (fun s => s.twin) (toSp (callAt h.calls t).sender), (callAt h.calls t).dead⟩ : Cl)
    rw [hv, hv, hsd]
  · rw [hlen] at b; rw [hpn i a b]
  · rw [hlen] at b
    rw [hpn i a b]
    show fullP p [] ≤ cells
    unfold fullP; simp; omega
  · rw [hT] at b; rw [tw a b] at c; have c : (0 : Int) ≤ -1 := c; omega
  · rw [hT] at b; rw [tw a b]; rfl
theorem moveIn_sim (H : HOK p h) {rooms : Nat} {cells : Int} (r1 : 1 ≤ rooms) (r2 : rooms ≤ 4) (c1 : 14 ≤ cells) (c2 : cells ≤ 60) : SimM p (moveInM h rooms cells) h (fun s => s.twin) := by
  have C := in_sim H r1 r2 c1 c2 (cells := cells)
  have hlen : (inM h rooms cells).pages.length = rooms := by unfold inM bareM; simp
  unfold moveInM
  by_cases hn : h.now < 0
  · rw [if_pos hn]
    have C2 := C.nowM (-1) h.now
    refine ⟨C2, ⟨by show (-1 : Int) ≤ -1; omega, by show (-1 : Int) < _; omega, fun _ => hn, fun e => by have e : (0 : Int) ≤ -1 := e; omega⟩⟩
  · rw [if_neg hn]
    have h0 : 0 ≤ h.now := by omega
    have tw := inM_tw (h := h) (rooms := rooms) (cells := cells) h0 H.now2
    obtain ⟨C2, l2, nf2, sp2⟩ := C.load H.prog (t := h.now) (i := 0) (Int.le_refl _) (by rw [hlen]; omega) h0 (by unfold inM; simp; exact H.now2) (by rw [tw]; show (-1 : Int) < 0; omega) (by rw [tw]; exact H.alive h0) (by unfold nF; rw [show pnAt (inM h rooms cells) 0 = ⟨-1, []⟩ from rep_getD (Int.le_refl _) (by omega)]; rfl)
    refine ⟨C2, ⟨by show (-1 : Int) ≤ 0; omega, by rw [l2, hlen]; show (0 : Int) < _; omega, fun e => by have e : (0 : Int) < 0 := e; omega, fun _ => ⟨?_, (orderN_perm r1 r2).2, ?_⟩⟩⟩
    · show 0 < nF (loadM (inM h rooms cells) h.now 0) 0; rw [nf2]; omega
    · show (spAt (loadM (inM h rooms cells) h.now 0) 0 (nF (loadM (inM h rooms cells) h.now 0) 0 - 1)).twin = h.now
      rw [nf2, show (1 : Int) - 1 = 0 by omega, sp2]; rfl
end
end Go.PT
namespace Go.PT
section
variable {p : Pg} {h : Hp}
def viewN (h : Hp) : List Cl := view (GH h) h.calls.length
def trimH (h : Hp) : Hp := ⟨viewN h, min h.now 0, h.born, h.said, h.code⟩
def allI (n : Nat) : List Int := (List.range n).map (fun k : Nat => (k : Int))
theorem mem_allI {n : Nat} {i : Int} : i ∈ allI n ↔ 0 ≤ i ∧ i < n := by
  unfold allI
  rw [List.mem_map]
  constructor
  · rintro ⟨k, h, rfl⟩
    have := List.mem_range.mp h
    omega
  · rintro ⟨h0, h1⟩
    exact ⟨i.toNat, List.mem_range.mpr (by omega), by omega⟩
theorem fin_heap (H : HOK p h) : Fin' (GH h) (allI h.calls.length) := by
  refine ⟨fun a ha => ?_, fun a ha b hb => ?_⟩
  · have := (gok_of_hok H).now a ha
    exact mem_allI.mpr this
  · have ha := mem_allI.mp ha
    have n := (gok_of_hok H).nd a ha
    unfold refs at hb
    rcases List.mem_append.mp hb with hb | hb
    · rw [Option.mem_toList] at hb
      exact mem_allI.mpr (n.sender b hb)
    · have key : ∀ l : List V, (∀ v ∈ l, VOk (GH h).rf (InH h) v) → b ∈ l.filterMap (refV (GH h)) → b ∈ allI h.calls.length := fun l hl hb => by
        obtain ⟨v, hv, e⟩ := List.mem_filterMap.mp hb
        unfold refV at e
        split at e
        · rename_i h2
          have e := Option.some.inj e
          rcases hl v hv with h | h | h
          · omega
          · omega
          · rw [← e]; exact mem_allI.mpr h.2
        · cases e
      rcases List.mem_append.mp hb with hb | hb
      · exact key _ n.tv hb
      · exact key _ n.sv hb
theorem allI_len (n : Nat) : (allI n).length = n := by unfold allI; simp
theorem whole_heap (H : HOK p h) : Whole (GH h) (found (GH h) h.calls.length) := by
  have := found_whole (fin_heap H)
  rwa [allI_len] at this
theorem trim_seen (H : HOK p h) : trimH h = seenH (GH h) (found (GH h) h.calls.length) h.born h.said h.code := by
  unfold trimH seenH viewN view
  congr 1
  have h1 := H.now1
  by_cases hn : h.now < 0
  · have e : (GH h).now = none := if_pos hn
    rw [e]
    show min h.now 0 = -1
    omega
  · have e : (GH h).now = some h.now := if_neg hn
    rw [e]
    show min h.now 0 = (((found (GH h) h.calls.length).idxOf h.now : Nat) : Int)
    have hh := found_head (n := h.calls.length) e
    have : (found (GH h) h.calls.length).idxOf h.now = 0 := by
      cases hl : found (GH h) h.calls.length with
      | nil => rw [hl] at hh; cases hh
      | cons x l =>
        rw [hl] at hh
        obtain rfl : x = h.now := by simpa using hh
        simp
    rw [this]; omega
theorem trim_ok (H : HOK p h) : HOK p (trimH h) := by
  rw [trim_seen H]
  have F := fin_heap H
  have hl := (found_len F h.calls.length).2
  refine seen_ok (gok_of_hok H) (whole_heap H) (fun a ha => mem_allI.mp (hl.1 a ha)) H.prog H.born1 H.born2 ?_ H.code1 H.code2 H.said ?_
  · have := hl.2
    rw [allI_len] at this
    have := H.size
    omega
  · rw [H.ended]
    show _ ↔ (if h.now < 0 then none else some h.now) = none
    constructor
    · intro e; rw [if_pos e]
    · intro e
      split at e
      · assumption
      · cases e
theorem view_long (H : HOK p h) {n : Nat} (hn : h.calls.length ≤ n) : view (GH h) n = viewN h := by
  have hl := (found_len (fin_heap H) h.calls.length).2.2
  rw [allI_len] at hl
  unfold viewN view
  rw [found_more hl n hn]
end
end Go.PT
namespace Go.PT
section
variable {p : Pg} {m : Mc} {h : Hp} {ix : Sp → Int}
theorem MOK.wf (M : MOK p m) : WF m := by
  refine ⟨fun i k a b c d => ?_, fun t a b => ?_, fun i a b => ⟨(M.pn i a b).b0, (M.pn i a b).b1⟩, fun t a b c => ?_, fun i k a b c d v hv e => ?_, fun t a b c v hv e => ?_⟩
  · have P := M.pn i a b
    have f := P.form k c d
    exact ⟨f.2.1, f.2.2, P.tells k c d⟩
  · have T := M.tw t a b
    refine ⟨?_, fun h => ?_⟩
    · rcases Int.lt_or_le (twAt m t).page 0 with h | h
      · have := (T.off h).1; omega
      · omega
    · obtain ⟨q1, q2, q3, q4, _⟩ := T.on h
      exact ⟨q1, q2, q3, q4⟩
  · have f := ((M.tw t a b).off c).2.2
    exact ⟨f.s0, f.s1⟩
  · have f := ((M.pn i a b).form k c d).1
    rcases List.mem_append.mp hv with hv | hv
    · exact valOk_call (f.tv v hv) e
    · exact valOk_call (f.sv v hv) e
  · have f := ((M.tw t a b).off c).2.2
    rcases List.mem_append.mp hv with hv | hv
    · exact valOk_call (f.tv v hv) e
    · exact valOk_call (f.sv v hv) e
theorem vok_mach {v : V} (h : valOk m.twins.length v = true) : VOk twSp (InM m) v := by
  rcases valOk_kind h with h0 | h0 | h0
  · exact .inl ⟨h0, valOk_none h h0⟩
  · exact .inr (.inl ⟨h0, valOk_num h h0⟩)
  · have := valOk_call h h0
    exact .inr (.inr ⟨h0, in_tw this.1 this.2⟩)
theorem MOK.gok (M : MOK p m) : GOK p (GM m) (InM m) := by
  have W := M.wf
  refine ⟨fun s hs => ?_, fun s hs => ?_, M.way⟩
  · have key : ∃ sd, FormP p m.twins.length { clOf m s with sender := sd } ∧ ((clOf m s).dead = true → sndOf m s = none) := by
      rcases place W hs with ⟨h1, h2, h3, h4, h5⟩ | ⟨h1, h2, h3, h4, h5⟩
      · have hp : (twAt m s.twin).page < 0 := by omega
        have f := ((M.tw s.twin h2 h3).off hp).2.2
        rw [h4]
        refine ⟨(twAt m s.twin).left.sender, ?_, fun hd => ?_⟩
        · rw [clOf_off h2 hp]; exact f
        · rw [clOf_off h2 hp] at hd
          rw [sndOf_off h2 hp, (f.dead hd).1]; rfl
      · have f := ((M.pn _ h1 h2).form _ h3 h4).1
        refine ⟨-1, ?_, fun hd => ?_⟩
        · rw [← h5, clOf_sp W h1 h2 h3 h4]; exact f
        · rw [← h5, frame_live W h1 h2 h3 h4] at hd; cases hd
    obtain ⟨sd, f, hd⟩ := key
    exact ⟨f.m0, f.m1, f.pc0, f.pc1, f.temps, f.stack, fun b hb => snd_in W hs hb, fun v hv => vok_mach (f.tv v hv), fun v hv => vok_mach (f.sv v hv), fun h => ⟨hd h, (f.dead h).2⟩⟩
  · have hs : topSp m = some s := hs
    unfold topSp at hs
    split at hs
    · rename_i h
      obtain rfl := Option.some.inj hs
      have hn : 0 < nF m m.now := by
        have := List.length_pos_iff.mpr h.2.2
        unfold nF; omega
      exact in_sp W h.1 h.2.1 (by unfold topK; omega) (by unfold topK; omega)
    · cases hs
def allS (m : Mc) : List Sp := (allP m.twins.length).map twSp ++ (framesS m).filter (fun s => decide (s.twin < 0))
theorem mem_allS (W : WF m) {s : Sp} : s ∈ allS m ↔ InM m s := by
  unfold allS
  rw [List.mem_append, List.mem_map, List.mem_filter, mem_framesS, decide_eq_true_eq]
  constructor
  · rintro (⟨t, ht, rfl⟩ | ⟨⟨i, k, hi, hk, rfl⟩, _⟩)
    · have := mem_allP.mp ht
      exact in_tw this.1 this.2
    · exact in_sp W hi.1 hi.2 hk.1 hk.2
  · intro hs
    rcases hs with ⟨a, b, c, d⟩ | ⟨a, b, c, d, e, f⟩
    · refine .inl ⟨s.twin, mem_allP.mpr ⟨a, b⟩, ?_⟩
      cases s; simp only [twSp] at *; subst c d; rfl
    · refine .inr ⟨⟨s.page, s.at', ⟨b, c⟩, ⟨d, e⟩, ?_⟩, by omega⟩
      unfold spAt
      rw [if_neg (by omega)]
      cases s; simp only at *; subst a; rfl
theorem MOK.fin (M : MOK p m) : Fin' (GM m) (allS m) := by
  have W := M.wf
  have G := M.gok
  refine ⟨fun a ha => (mem_allS W).mpr (G.now a ha), fun a ha b hb => ?_⟩
  have n := G.nd a ((mem_allS W).mp ha)
  unfold refs at hb
  rcases List.mem_append.mp hb with hb | hb
  · rw [Option.mem_toList] at hb
    exact (mem_allS W).mpr (n.sender b hb)
  · have key : ∀ l : List V, (∀ v ∈ l, VOk (GM m).rf (InM m) v) → b ∈ l.filterMap (refV (GM m)) → b ∈ allS m := fun l hl hb => by
      obtain ⟨v, hv, e⟩ := List.mem_filterMap.mp hb
      unfold refV at e
      split at e
      · rename_i h2
        have e := Option.some.inj e
        rcases hl v hv with h | h | h
        · omega
        · omega
        · rw [← e]; exact (mem_allS W).mpr h.2
      · cases e
    rcases List.mem_append.mp hb with hb | hb
    · exact key _ n.tv hb
    · exact key _ n.sv hb
def viewM (m : Mc) : List Cl := view (GM m) (allS m).length
def outM (m : Mc) : Hp := ⟨viewM m, min m.now 0, m.born, m.said, m.code⟩
theorem viewM_long (M : MOK p m) {n : Nat} (hn : (allS m).length ≤ n) : view (GM m) n = viewM m := by
  have hl := (found_len M.fin (allS m).length).2.2
  unfold viewM view
  rw [found_more hl n hn]
theorem MOK.topSp (M : MOK p m) : topSp m = none ↔ m.now < 0 := by
  unfold Go.PT.topSp
  constructor
  · intro e
    split at e
    · cases e
    · rename_i hn
      rcases Int.lt_or_le m.now 0 with h | h
      · exact h
      · exact absurd ⟨h, M.now2, (M.top h).1⟩ hn
  · intro h; rw [if_neg (fun e => by omega)]
theorem SimM.outM (S : SimM p m h ix) (H : HOK p h) : outM m = trimH h := by
  have M := S.mok H
  have e := S.view (max (allS m).length h.calls.length)
  rw [viewM_long M (by omega), view_long H (by omega)] at e
  unfold Go.PT.outM trimH
  have h1 := M.now1
  have h2 := H.now1
  have h3 := S.negIff
  rw [e, S.born, S.said, S.code]
  congr 1
  omega
end
end Go.PT
namespace Go.PT
open Go.Proofs
def Flaws_lmCalls.l1 (x0 x1 x4 x5 : Value) (w : World) (Kn Kb Kr : LW) : Prop := ∀ _ : Env,
  lenT x0 fun t13 =>
  binT .lss x5 t13 fun t14 =>
  condT t14
  (ixaT 6 x0 x5 fun t19 =>
  ldsT 6 t19 (w.drew) fun t20 =>
  ixaT 6 x1 x5 fun t23 =>
  ldsT 6 t23 (w.drew) fun t24 =>
  clT PR 108 [t20, t24] (w.drew) fun t25 w1 =>
  notT t25 fun t26 =>
  condT t26
  (Kr [x0, x1, (.bool false), x5] w1)
  (binT .add x5 (.int .i64 1) fun t16 =>
  Kn [x0, x1, x4, t16] w1))
  (Kb [x0, x1, x4, x5] w)
def Flaws_lmCalls.k2 (x0 x1 x4 x5 : Value) (w : World) (R : VW) : Prop := ∀ _ : Env,
  R (.bool true) w
def Flaws_lmCalls.r3 (x0 x1 x4 x5 : Value) (w : World) (R : VW) : Prop := ∀ _ : Env,
  R x4 w
def Flaws_lmCalls (t0 t1 : Value) (w : World) (R : VW) : Prop :=
  lenT t0 fun t7 =>
  lenT t1 fun t9 =>
  binT .neq t7 t9 fun t10 =>
  condT t10
  (R (.bool false) w)
  (loopT (fun s w Kn Kb Kr => Flaws_lmCalls.l1 (s.headD undef) (s.tail.headD undef) (s.tail.tail.headD undef) (s.tail.tail.tail.headD undef) w Kn Kb Kr) [t0, t1, (.bool false), (.int .i64 0)] w
  (fun s w => Flaws_lmCalls.k2 (s.headD undef) (s.tail.headD undef) (s.tail.tail.headD undef) (s.tail.tail.tail.headD undef) w R)
  (fun s w => Flaws_lmCalls.r3 (s.headD undef) (s.tail.headD undef) (s.tail.tail.headD undef) (s.tail.tail.tail.headD undef) w R))
def Flaws_lmCalls.H : Hints := {draw := fun i => match i with | 6 => { T := [0, 0, 3, 7, 0, 0, 48, 112, 255, 511] } | _ => {}, loop := fun i => match i with | 4 => some (0, [0, 1, 4, 5]) | _ => none}
theorem Flaws_lmCalls.eq (t0 t1 : Value) : trF PR CX Flaws_lmCalls.H Tryz.f38 [t0, t1] = Flaws_lmCalls t0 t1 := by kernel_rfl
theorem Flaws_lmCalls.cl {t0 t1 : Value} {w : World} {R : VW} (h : Flaws_lmCalls t0 t1 w R) : clT PR 38 [t0, t1] w R := cl_of_tr (H := Flaws_lmCalls.H) ctxOk Tryz.func38 rfl (by rw [Flaws_lmCalls.eq]; exact h)
def Flaws_lmHeap (t0 t1 : Value) (w : World) (R : VW) : Prop :=
  boxT 57 t0 w fun t2 w1 =>
  boxT 57 t1 w1 fun t3 w2 =>
  fadT 0 t2 fun t5 =>
  ldT t5 w2 fun t6 =>
  fadT 0 t3 fun t7 =>
  ldT t7 w2 fun t8 =>
  clT PR 38 [t6, t8] w2 fun t9 w3 =>
  condT t9
  (fadT 1 t2 fun t11 =>
  ldT t11 w3 fun t12 =>
  fadT 1 t3 fun t13 =>
  ldT t13 w3 fun t14 =>
  binT .eql t12 t14 fun t15 =>
  condT t15
  (fadT 2 t2 fun t18 =>
  ldT t18 w3 fun t19 =>
  fadT 2 t3 fun t20 =>
  ldT t20 w3 fun t21 =>
  binT .eql t19 t21 fun t22 =>
  condT t22
  (fadT 4 t2 fun t25 =>
  ldT t25 w3 fun t26 =>
  fadT 4 t3 fun t27 =>
  ldT t27 w3 fun t28 =>
  binT .eql t26 t28 fun t29 =>
  condT t29
  (fadT 3 t2 fun t32 =>
  ldT t32 w3 fun t33 =>
  fadT 3 t3 fun t34 =>
  ldT t34 w3 fun t35 =>
  clT PR 52 [t33, t35] w3 fun t36 w4 =>
  R t36 w4)
  (R (.bool false) w3))
  (R (.bool false) w3))
  (R (.bool false) w3))
  (R (.bool false) w3)
def Flaws_lmHeap.H : Hints := {}
theorem Flaws_lmHeap.eq (t0 t1 : Value) : trF PR CX Flaws_lmHeap.H Tryz.f44 [t0, t1] = Flaws_lmHeap t0 t1 := by kernel_rfl
theorem Flaws_lmHeap.cl {t0 t1 : Value} {w : World} {R : VW} (h : Flaws_lmHeap t0 t1 w R) : clT PR 44 [t0, t1] w R := cl_of_tr (H := Flaws_lmHeap.H) ctxOk Tryz.func44 rfl (by rw [Flaws_lmHeap.eq]; exact h)
def Flaws_lmVals.l1 (x0 x1 x4 x5 : Value) (w : World) (Kn Kb Kr : LW) : Prop := ∀ _ : Env,
  lenT x0 fun t13 =>
  binT .lss x5 t13 fun t14 =>
  condT t14
  (ixaT 2 x0 x5 fun t19 =>
  ldsT 2 t19 (w.drew) fun t20 =>
  ixaT 2 x1 x5 fun t23 =>
  ldsT 2 t23 (w.drew) fun t24 =>
  opT PR (do eqGuard .neq 127 (.tmp 20) (.tmp 24) t20 t24; binOp .neq 127 t20 t24) (w.drew) fun t25 w1 =>
  condT t25
  (Kr [x0, x1, (.bool false), x5] w1)
  (binT .add x5 (.int .i64 1) fun t16 =>
  Kn [x0, x1, x4, t16] w1))
  (Kb [x0, x1, x4, x5] w)
def Flaws_lmVals.k2 (x0 x1 x4 x5 : Value) (w : World) (R : VW) : Prop := ∀ _ : Env,
  R (.bool true) w
def Flaws_lmVals.r3 (x0 x1 x4 x5 : Value) (w : World) (R : VW) : Prop := ∀ _ : Env,
  R x4 w
def Flaws_lmVals (t0 t1 : Value) (w : World) (R : VW) : Prop :=
  lenT t0 fun t7 =>
  lenT t1 fun t9 =>
  binT .neq t7 t9 fun t10 =>
  condT t10
  (R (.bool false) w)
  (loopT (fun s w Kn Kb Kr => Flaws_lmVals.l1 (s.headD undef) (s.tail.headD undef) (s.tail.tail.headD undef) (s.tail.tail.tail.headD undef) w Kn Kb Kr) [t0, t1, (.bool false), (.int .i64 0)] w
  (fun s w => Flaws_lmVals.k2 (s.headD undef) (s.tail.headD undef) (s.tail.tail.headD undef) (s.tail.tail.tail.headD undef) w R)
  (fun s w => Flaws_lmVals.r3 (s.headD undef) (s.tail.headD undef) (s.tail.tail.headD undef) (s.tail.tail.tail.headD undef) w R))
def Flaws_lmVals.H : Hints := {draw := fun i => match i with | 6 => { T := [0, 0, 3, 7, 0, 0, 48, 112, 255] } | _ => {}, loop := fun i => match i with | 4 => some (0, [0, 1, 4, 5]) | _ => none}
theorem Flaws_lmVals.eq (t0 t1 : Value) : trF PR CX Flaws_lmVals.H Tryz.f52 [t0, t1] = Flaws_lmVals t0 t1 := by kernel_rfl
theorem Flaws_lmVals.cl {t0 t1 : Value} {w : World} {R : VW} (h : Flaws_lmVals t0 t1 w R) : clT PR 52 [t0, t1] w R := cl_of_tr (H := Flaws_lmVals.H) ctxOk Tryz.func52 rfl (by rw [Flaws_lmVals.eq]; exact h)
def Flaws_lmCall (t0 t1 : Value) (w : World) (R : VW) : Prop :=
  boxT 89 t0 w fun t2 w1 =>
  boxT 89 t1 w1 fun t3 w2 =>
  fadT 0 t2 fun t5 =>
  ldT t5 w2 fun t6 =>
  fadT 0 t3 fun t7 =>
  ldT t7 w2 fun t8 =>
  binT .eql t6 t8 fun t9 =>
  condT t9
  (fadT 1 t2 fun t11 =>
  ldT t11 w2 fun t12 =>
  fadT 1 t3 fun t13 =>
  ldT t13 w2 fun t14 =>
  binT .eql t12 t14 fun t15 =>
  condT t15
  (fadT 4 t2 fun t18 =>
  ldT t18 w2 fun t19 =>
  fadT 4 t3 fun t20 =>
  ldT t20 w2 fun t21 =>
  binT .eql t19 t21 fun t22 =>
  condT t22
  (fadT 5 t2 fun t25 =>
  ldT t25 w2 fun t26 =>
  fadT 5 t3 fun t27 =>
  ldT t27 w2 fun t28 =>
  opT PR (do eqGuard .eql 4 (.tmp 26) (.tmp 28) t26 t28; binOp .eql 4 t26 t28) w2 fun t29 w3 =>
  condT t29
  (fadT 2 t2 fun t32 =>
  ldT t32 w3 fun t33 =>
  fadT 2 t3 fun t34 =>
  ldT t34 w3 fun t35 =>
  clT PR 52 [t33, t35] w3 fun t36 w4 =>
  condT t36
  (fadT 3 t2 fun t39 =>
  ldT t39 w4 fun t40 =>
  fadT 3 t3 fun t41 =>
  ldT t41 w4 fun t42 =>
  clT PR 52 [t40, t42] w4 fun t43 w5 =>
  R t43 w5)
  (R (.bool false) w4))
  (R (.bool false) w3))
  (R (.bool false) w2))
  (R (.bool false) w2))
  (R (.bool false) w2)
def Flaws_lmCall.H : Hints := {}
theorem Flaws_lmCall.eq (t0 t1 : Value) : trF PR CX Flaws_lmCall.H Tryz.f108 [t0, t1] = Flaws_lmCall t0 t1 := by kernel_rfl
theorem Flaws_lmCall.cl {t0 t1 : Value} {w : World} {R : VW} (h : Flaws_lmCall t0 t1 w R) : clT PR 108 [t0, t1] w R := cl_of_tr (H := Flaws_lmCall.H) ctxOk Tryz.func108 rfl (by rw [Flaws_lmCall.eq]; exact h)
end Go.PT
namespace Go.PT
variable {α : Type}
def At (v : Value) (sz i b o : Nat) : Prop := ∃ n cap o0, v = .slice (some ⟨b, o0, none⟩) n cap ∧ o = o0 + i * sz
theorem Sl.ixo_of {kd : Kd α} {ok w p} {xs : List α} {v} {i : Int} {k : Value → Prop} {sz : Nat} (h : Sl kd ok w p xs v) (hz : sz = kd.sz) (h0 : 0 ≤ i) (h1 : i < xs.length)
    (hk : ∀ x b o es m, xs[i.toNat]? = some x → At v kd.sz i.toNat b o → ok w p b m → kd.K ok w (p ++ [i.toNat]) x es → Cells w b o es → k (.pointer (some ⟨b, o, none⟩))) : ixaT sz v (.int .i64 i) k := by
  obtain ⟨A, cap, rfl, h2, h3⟩ := h
  have hi : i.toNat < xs.length := by omega
  rcases h3 with rfl | ⟨b, o, rfl, h4, h5⟩
  · omega
  · obtain ⟨es, k1, k2⟩ := h5 i.toNat xs[i.toNat] (by simp [hi])
    subst hz
    exact ⟨h0, h1, hk _ b _ es _ (by simp [hi]) ⟨_, _, _, rfl, rfl⟩ h4 k1 k2⟩
def spl (cs : List Value) (q : Nat) (vs : List Value) : List Value := cs.take q ++ vs ++ cs.drop (q + vs.length)
theorem spl_get {cs vs : List Value} {q : Nat} (h : q + vs.length ≤ cs.length) (x : Nat) : (spl cs q vs)[x]? = if x < q then cs[x]? else if x < q + vs.length then vs[x - q]? else cs[x]? := by
  unfold spl
  by_cases h1 : x < q
  · rw [if_pos h1, List.append_assoc, List.getElem?_append_left (by rw [List.length_take]; omega), List.getElem?_take_of_lt h1]
  · rw [if_neg h1]
    by_cases h2 : x < q + vs.length
    · rw [if_pos h2, List.append_assoc, List.getElem?_append_right (by rw [List.length_take]; omega), List.length_take, show x - min q cs.length = x - q by omega, List.getElem?_append_left (by omega)]
    · rw [if_neg h2, List.getElem?_append_right (by rw [List.length_append, List.length_take]; omega), List.length_append, List.length_take, List.getElem?_drop]
      congr 1; omega
theorem spl_len {cs vs : List Value} {q : Nat} (h : q + vs.length ≤ cs.length) : (spl cs q vs).length = cs.length := by
  unfold spl; simp; omega
theorem cell_blk {w : World} {b x : Nat} {cs : List Value} (h : Blk w b cs) : w.cell? ⟨b, x, none⟩ = cs[x]? := by
  obtain ⟨t, h⟩ := h
  unfold World.cell?
  simp [h]
theorem cells_det {w : World} {b o : Nat} {es fs : List Value} (h : Cells w b o es) (h' : Cells w b o fs) (hl : es.length = fs.length) : es = fs := by
  refine List.ext_getElem? fun j => ?_
  rcases Nat.lt_or_ge j es.length with hj | hj
  · have h1 := h j _ (List.getElem?_eq_getElem hj)
    have h2 := h' j _ (List.getElem?_eq_getElem (hl ▸ hj))
    rw [h1] at h2
    rw [List.getElem?_eq_getElem hj, List.getElem?_eq_getElem (hl ▸ hj)]
    exact h2
  · rw [List.getElem?_eq_none hj, List.getElem?_eq_none (hl ▸ hj)]
theorem Sl.puts {kd : Kd α} {L : Lab} {w : World} {p : List Nat} {xs : List α} {v : Value} {i b o off : Nat} {vs : List Value} (h : Sl kd (Own L) w p xs v) (ha : At v kd.sz i b o) (hi : i < xs.length) (hoff : off + vs.length ≤ kd.sz)
    (h1 : ∀ u ∈ vs, u.oneCell' = true) :
    L b = some p ∧ ∃ w', stN w ⟨b, o + off, none⟩ vs 0 = some w' ∧ Fr (fun x => x = b) w w' ∧
      (∀ es, Cells w b o es → es.length = kd.sz → Cells w' b o (spl es off vs)) ∧
      ∀ x', (∀ es, kd.K (Own L) w (p ++ [i]) xs[i] es → Cells w b o es → kd.K (Own L) w' (p ++ [i]) x' (spl es off vs)) → Sl kd (Own L) w' p (xs.set i x') v := by
  obtain ⟨A, cap, rfl, hcap, h3⟩ := h
  obtain ⟨n, cap', o0, e, rfl⟩ := ha
  injection e with e1 e2 e3
  subst e1 e3
  rcases h3 with rfl | ⟨b', o', hb, ho, hel⟩
  · omega
  · injection hb with hb
    injection hb with e4 e5 e6
    subst e4 e5
    obtain ⟨hl, cs, t, hh, hm⟩ := id ho
    have hmul : (i + 1) * kd.sz ≤ cap * kd.sz := Nat.mul_le_mul_right _ (by omega)
    rw [Nat.add_mul, Nat.one_mul] at hmul
    have hB : Blk w b cs.toList := ⟨t, by simpa using hh⟩
    have hcl : cs.toList.length = cs.size := Array.length_toList
    obtain ⟨w', a1, a2, a3⟩ := stN_of vs w b (o0 + i * kd.sz + off) 0 cs.toList hB (by omega) h1
    have a3 : Blk w' b (spl cs.toList (o0 + i * kd.sz + off) vs) := a3
    have hlen : o0 + i * kd.sz + off + vs.length ≤ cs.toList.length := by omega
    have hcs : ∀ es, Cells w b (o0 + i * kd.sz) es → es.length = kd.sz → Cells w' b (o0 + i * kd.sz) (spl es off vs) := by
      intro es hes hel j c hj
      rw [cell_blk a3, spl_get hlen]
      rw [spl_get (by omega)] at hj
      by_cases c1 : j < off
      · rw [if_pos c1] at hj
        rw [if_pos (by omega), ← cell_blk hB]; exact hes j c hj
      · rw [if_neg c1] at hj
        by_cases c2 : j < off + vs.length
        · rw [if_pos c2] at hj
          rw [if_neg (by omega), if_pos (by omega), show o0 + i * kd.sz + j - (o0 + i * kd.sz + off) = j - off by omega]; exact hj
        · rw [if_neg c2] at hj
          rw [if_neg (by omega), if_neg (by omega), ← cell_blk hB]; exact hes j c hj
    refine ⟨hl, w', a1, a2, hcs, fun x' hK => ?_⟩
    refine ⟨_, cap, by rw [List.length_set], by rw [List.length_set]; omega, .inr ⟨b, o0, rfl, ⟨hl, _, _, a3.choose_spec, ?_⟩, ?_⟩⟩
    · rw [List.size_toArray, spl_len hlen, Array.length_toList]; exact hm
    · intro j y hj
      rw [List.getElem?_set] at hj
      by_cases hji : i = j
      · subst hji
        rw [if_pos rfl, if_pos hi] at hj
        obtain rfl := Option.some.inj hj
        obtain ⟨es, k1, k2⟩ := hel i xs[i] (by simp)
        exact ⟨_, hK es k1 k2, hcs es k2 (kd.len k1)⟩
      · rw [if_neg hji] at hj
        obtain ⟨es, k1, k2⟩ := hel j y hj
        have hes := kd.len k1
        refine ⟨es, kd.own k1 a2 (fun c r hc => ⟨fun e => ?_, hc⟩), fun x c hx => ?_⟩
        · subst e
          rw [hl] at hc
          have := congrArg List.length (Option.some.inj hc)
          simp at this
        · have hx' := (List.getElem?_eq_some_iff.mp hx).1
          rw [cell_blk a3, spl_get hlen]
          have hlt : j < i ∨ i < j := by omega
          rcases hlt with hlt | hlt
          · have : (j + 1) * kd.sz ≤ i * kd.sz := Nat.mul_le_mul_right _ hlt
            rw [Nat.add_mul, Nat.one_mul] at this
            rw [if_pos (by omega), ← cell_blk hB]; exact k2 x c hx
          · have : (i + 1) * kd.sz ≤ j * kd.sz := Nat.mul_le_mul_right _ hlt
            rw [Nat.add_mul, Nat.one_mul] at this
            rw [if_neg (by omega), if_neg (by omega), ← cell_blk hB]; exact k2 x c hx
structure Mut (L : Lab) (w : World) (L' : Lab) (w' : World) : Prop where
  fr : Fr (fun b => L b ≠ none) w w'
  un : ∀ b, b < w.heap.size → L b = none → L' b = none
  lim : Lim L' w'
theorem Mut.refl {L : Lab} {w : World} (h : Lim L w) : Mut L w L w := ⟨Fr.refl _ _, fun _ _ h => h, h⟩
theorem Mut.trans {L L' L'' : Lab} {w w' w'' : World} (h : Mut L w L' w') (k : Mut L' w' L'' w'') : Mut L w L'' w'' :=
  ⟨h.fr.trans' k.fr (fun _ _ h => h) (fun b hb hn e => hn (h.un b hb e)), fun b hb e => k.un b (Nat.lt_of_lt_of_le hb h.fr.size) (h.un b hb e), k.lim⟩
theorem Mut.ext {L L' : Lab} {w w' w'' : World} (h : Mut L w L' w') (k : Ext w' w'') : Mut L w L' w'' := ⟨h.fr.ext k, h.un, h.lim.fr k⟩
theorem Mut.pre {L L' : Lab} {w w' w'' : World} (e : Ext w w') (h : Mut L w' L' w'') : Mut L w L' w'' :=
  ⟨e.trans' h.fr (fun _ _ h => h.elim) (fun _ _ h => h), fun b hb => h.un b (Nat.lt_of_lt_of_le hb e.size), h.lim⟩
theorem Mut.size {L L' : Lab} {w w' : World} (h : Mut L w L' w') : w.heap.size ≤ w'.heap.size := h.fr.size
theorem Mut.of {L L' : Lab} {w w' : World} {q : List Nat} (h : Fr (fun b => L b = some q) w w') (hx : Lx q w L L') (hl : Lim L' w') : Mut L w L' w' :=
  ⟨h.to (fun b _ e => by rw [e]; exact fun h => by cases h), fun b hb hn => by rw [hx.old hb]; exact hn, hl⟩
theorem Mut.at {L : Lab} {w w' : World} {x : Nat} {q : List Nat} (h : Fr (fun b => b = x) w w') (hx : L x = some q) (hl : Lim L w) : Mut L w L w' :=
  ⟨h.to (fun b _ e => by rw [e, hx]; exact fun h => by cases h), fun _ _ h => h, hl.fr h⟩
theorem Mut.still {L L' : Lab} {w0 w w' : World} (h : Mut L w L' w') (hs : w0.heap.size ≤ w.heap.size) (hb : Born w0 L) : Born w0 L' := by
  intro b q hL
  rcases Nat.lt_or_ge b w0.heap.size with hlt | hge
  · cases hL0 : L b with
    | none => rw [h.un b (by omega) hL0] at hL; cases hL
    | some q' => exact hb b q' hL0
  · exact hge
def Un (L : Lab) (n : Nat) : Ok := fun _ _ b _ => L b = none ∧ b < n
theorem free_un (L : Lab) (n : Nat) : Free (Un L n) := fun _ _ _ _ _ _ h => h
theorem Sl.unMut {kd : Kd α} {L L' n w w' p} {xs : List α} {v} (h : Sl kd (Un L n) w p xs v) (e : Mut L w L' w') (hn : n ≤ w.heap.size) : Sl kd (Un L' n) w' p xs v :=
  h.frame (fun r b m hb => ⟨fun o v hc => e.fr.cell (by rw [hb.1]; exact fun h => h rfl) hc, e.un b (Nat.lt_of_lt_of_le hb.2 hn) hb.1, hb.2⟩)
theorem Sl.unExt {kd : Kd α} {L n w w' p} {xs : List α} {v} (h : Sl kd (Un L n) w p xs v) (e : Ext w w') : Sl kd (Un L n) w' p xs v :=
  h.frame (fun r b m hb => ⟨fun o v hc => Ext.cell e hc, hb⟩)
theorem Sl.unUp {kd : Kd α} {L n n' w p} {xs : List α} {v} (h : Sl kd (Un L n) w p xs v) (hn : n ≤ n') : Sl kd (Un L n') w p xs v :=
  h.frame (fun r b m hb => ⟨fun o v hc => hc, hb.1, Nat.lt_of_lt_of_le hb.2 hn⟩)
theorem Sl.unAny {kd : Kd α} {L n w p q} {xs : List α} {v} (h : Sl kd (Un L n) w p xs v) (hn : n ≤ w.heap.size) : Sl kd Any w q xs v := h.frame (fun r b m hb => ⟨fun o v hc => hc, Nat.lt_of_lt_of_le hb.2 hn⟩)
theorem Sl.ofAny {kd : Kd α} {L w p q} {xs : List α} {v} (h : Sl kd Any w p xs v) (hb : Born w L) : Sl kd (Un L w.heap.size) w q xs v :=
  h.frame (fun r b m hlt => ⟨fun o v hc => hc, by
    cases hL : L b with
    | none => rfl
    | some q' => have := hb b q' hL; have hlt : b < w.heap.size := hlt; omega, hlt⟩)
def UB (L : Lab) (w : World) (b : Nat) (cs : List Value) : Prop := Blk w b cs ∧ L b = none
theorem UB.ext {L w w' b cs} (h : UB L w b cs) (e : Ext w w') : UB L w' b cs := ⟨h.1.ext e, h.2⟩
theorem UB.mut {L L' w w' b cs} (h : UB L w b cs) (e : Mut L w L' w') : UB L' w' b cs := ⟨h.1.fr e.fr (by rw [h.2]; exact fun h => h rfl), e.un b h.1.lt h.2⟩
theorem UB.of {L w w' b cs} (h : Blk w' b cs) (hb : w.heap.size ≤ b) (hl : Lim L w) : UB L w' b cs := ⟨h, by
  cases hL : L b with
  | none => rfl
  | some q => have := hl b q hL; omega⟩
theorem UB.cell {L w b o cs v} (h : UB L w b cs) (hv : cs[o]? = some v) : w.cell? ⟨b, o, none⟩ = some v := h.1.cell hv
theorem UB.cells {L w b cs} (h : UB L w b cs) : Cells w b 0 cs := h.1.cells
def joinL (L : Lab) (q : List Nat) (M : Lab) : Lab := fun b => match L b with | some p => some p | none => (M b).map (q ++ ·)
theorem joinL_left {L : Lab} {q : List Nat} {M : Lab} {b : Nat} {p : List Nat} (h : L b = some p) : joinL L q M b = some p := by unfold joinL; rw [h]
theorem joinL_right {L : Lab} {q : List Nat} {M : Lab} {b : Nat} {p : List Nat} (h : M b = some p) (hn : L b = none) : joinL L q M b = some (q ++ p) := by unfold joinL; rw [hn]; simp [h]
theorem joinL_none {L : Lab} {q : List Nat} {M : Lab} {b : Nat} (h : M b = none) (hn : L b = none) : joinL L q M b = none := by unfold joinL; rw [hn]; simp [h]
def Apart (L M : Lab) : Prop := ∀ b p, M b = some p → L b = none
theorem apart_of {L M : Lab} {w : World} (hl : Lim L w) (hb : Born w M) : Apart L M := fun b p h => by
  cases hL : L b with
  | none => rfl
  | some q => have := hl b q hL; have := hb b p h; omega
theorem Sl.inL {kd : Kd α} {L M w p q} {xs : List α} {v} (h : Sl kd (Own L) w p xs v) : Sl kd (Own (joinL L q M)) w p xs v :=
  h.own (Fr.refl No w) (fun b r hb => ⟨fun e => e, joinL_left hb⟩)
theorem Sl.inR {kd : Kd α} {L M w p q} {xs : List α} {v} (h : Sl kd (Own M) w p xs v) (ha : Apart L M) : Sl kd (Own (joinL L q M)) w (q ++ p) xs v :=
  h.own (Fr.refl No w) (fun b r hb => ⟨fun e => e, by rw [List.append_assoc]; exact joinL_right hb (ha b _ hb)⟩)
theorem joinL_lim {L : Lab} {q : List Nat} {M : Lab} {w : World} (h : Lim L w) (k : Lim M w) : Lim (joinL L q M) w := by
  intro b p hb
  unfold joinL at hb
  cases hL : L b with
  | some p' => exact h b p' hL
  | none =>
    rw [hL] at hb
    simp only [Option.map_eq_some_iff] at hb
    obtain ⟨r, h1, _⟩ := hb
    exact k b r h1
theorem Mut.join {L : Lab} {q : List Nat} {M : Lab} {w w' : World} (e : Ext w w') (hl : Lim L w) (hb : Born w M) (hm : Lim M w') : Mut L w (joinL L q M) w' :=
  ⟨e.fr, fun b hlt hn => joinL_none (by
    cases hM : M b with
    | none => rfl
    | some p => have := hb b p hM; omega) hn, joinL_lim (hl.fr e) hm⟩
theorem Sl.kid {kd : Kd α} {L L' : Lab} {w w' : World} {p : List Nat} {xs : List α} {v : Value} {i b o : Nat} {S : Nat → Prop} {x' : α} {es : List Value} (h : Sl kd (Own L) w p xs v) (ha : At v kd.sz i b o) (hi : i < xs.length) (e : Fr S w w')
    (hs : ∀ c r, L c = some (p ++ r) → r.head? ≠ some i → ¬ S c ∧ L' c = some (p ++ r)) (hes : Cells w b o es) (hel : es.length = kd.sz) (hK : kd.K (Own L') w' (p ++ [i]) x' es) : Sl kd (Own L') w' p (xs.set i x') v := by
  obtain ⟨A, cap, rfl, hcap, h3⟩ := h
  obtain ⟨n, cap', o0, e0, rfl⟩ := ha
  injection e0 with e1 e2 e3
  subst e1 e3
  rcases h3 with rfl | ⟨b', o', hb, ho, hel'⟩
  · omega
  · injection hb with hb
    injection hb with e4 e5 e6
    subst e4 e5
    have hb0 := hs b [] (by simpa using ho.1) (by simp)
    have hrow := own_keep (L' := L') (q := p) e ho hb0.1 (by simpa using hb0.2)
    refine ⟨_, cap, by rw [List.length_set], by rw [List.length_set]; omega, .inr ⟨b, o0, rfl, hrow.2, fun j y hj => ?_⟩⟩
    rw [List.getElem?_set] at hj
    by_cases hji : i = j
    · subst hji
      rw [if_pos rfl, if_pos hi] at hj
      obtain rfl := Option.some.inj hj
      exact ⟨es, hK, fun j c hc => hrow.1 _ _ (hes j c hc)⟩
    · rw [if_neg hji] at hj
      obtain ⟨fs, k1, k2⟩ := hel' j y hj
      refine ⟨fs, kd.own k1 e (fun c r hc => ?_), fun x c hx => hrow.1 _ _ (k2 x c hx)⟩
      rw [List.append_assoc] at hc ⊢
      exact hs c _ hc (by simpa using fun h => hji h.symm)
theorem st_of_stN {w w' : World} {b o : Nat} {v : Value} {k : World → Prop} (h : stN w ⟨b, o, none⟩ [v] 0 = some w') (hk : k w') : stT (.pointer (some ⟨b, o, none⟩)) v w k := by
  unfold stN at h
  rw [Addr.add_lit, Nat.add_zero] at h
  split at h
  · rename_i hc
    unfold stN at h
    obtain rfl := Option.some.inj h
    exact ⟨hc.1, hc.2.1, hc.2.2, hk⟩
  · cases h
theorem sts_of_stN {w w' : World} {b o n : Nat} {v : Value} {vs : List Value} {k : World → Prop} (hv : v.cells.toList = vs) (hn : n = vs.length) (h : stN w ⟨b, o, none⟩ vs 0 = some w') (hk : k w') : stsT n (.pointer (some ⟨b, o, none⟩)) v w k := by
  refine ⟨by rw [hn, ← hv]; simp, ?_⟩
  rw [hv, h]
  exact hk
theorem Sl.unOf {kd : Kd α} {L M w p q} {xs : List α} {v} (h : Sl kd (Own M) w p xs v) (ha : Apart L M) : Sl kd (Un L w.heap.size) w q xs v :=
  h.frame (fun r b m hb => ⟨fun o v hc => hc, ha b _ hb.1, own_lt hb⟩)
structure En (L0 : Lab) (w0 : World) (L : Lab) (w : World) (l : List (Nat × List Value)) : Prop where
  mu : Mut L0 w0 L w
  loc : ∀ x ∈ l, UB L w x.1 x.2 ∧ w0.heap.size ≤ x.1
  once : (l.map Prod.fst).Nodup
section
variable {L0 L L' : Lab} {w0 w w' : World} {l : List (Nat × List Value)}
theorem En.init (h : Lim L w) : En L w L w [] := ⟨Mut.refl h, by simp, by simp⟩
theorem En.ext (E : En L0 w0 L w l) (e : Ext w w') : En L0 w0 L w' l := ⟨E.mu.ext e, fun x hx => ⟨(E.loc x hx).1.ext e, (E.loc x hx).2⟩, E.once⟩
theorem En.drew (E : En L0 w0 L w l) : En L0 w0 L w.drew l := E.ext (Fr.refl _ _).drew
theorem En.call (E : En L0 w0 L w l) (m : Mut L w L' w') : En L0 w0 L' w' l := ⟨E.mu.trans m, fun x hx => ⟨(E.loc x hx).1.mut m, (E.loc x hx).2⟩, E.once⟩
theorem En.size (E : En L0 w0 L w l) : w0.heap.size ≤ w.heap.size := E.mu.size
theorem En.add (E : En L0 w0 L w l) {b : Nat} {cs : List Value} (e : Ext w w') (hb : w.heap.size ≤ b) (k : Blk w' b cs) : En L0 w0 L w' ((b, cs) :: l) := by
  have E' := E.ext e
  refine ⟨E'.mu, fun x hx => ?_, ?_⟩
  · rcases List.mem_cons.mp hx with rfl | hx
    · exact ⟨UB.of k hb E.mu.lim, Nat.le_trans E.size hb⟩
    · exact E'.loc x hx
  · refine List.nodup_cons.mpr ⟨fun h => ?_, E.once⟩
    obtain ⟨x, hx, he⟩ := List.mem_map.mp h
    have := (E.loc x hx).1.1.lt
    simp only at he
    omega
theorem En.box (E : En L0 w0 L w l) {t : Nat} {v : Value} {k : VW} (hk : ∀ b w', En L0 w0 L w' ((b, v.cells.toList) :: l) → Ext w w' → k (.pointer (some ⟨b, 0, none⟩)) w') : boxT t v w k :=
  box_of' (fun b w' e hb kb => hk b w' (E.add e hb kb) e)
theorem En.al (E : En L0 w0 L w l) {t : Nat} {z : Array Value} {k : VW} (hk : ∀ b w', En L0 w0 L w' ((b, z.toList) :: l) → Ext w w' → k (.pointer (some ⟨b, 0, none⟩)) w') : allocT t z w k :=
  al_of' (fun b w' e hb kb => hk b w' (E.add e hb kb) e)
theorem En.bsl (E : En L0 w0 L w l) {e n size : Nat} {z : Array Value} {parts : List (Nat × Nat × Value)} {k : VW} (hp : parts = full size 0 (parts.map fun p => p.2.2)) (hn : n = parts.length) (hs : (parts.all fun p => p.2.2.cells.size == size) = true)
    (hk : ∀ b w', En L0 w0 L w' ((b, flat (parts.map fun p => p.2.2)) :: l) → Ext w w' → k (.slice (some ⟨b, 0, none⟩) n n) w') : bslT e n size z parts w k :=
  bsl_of' hp hn hs (fun b w' e hb kb => hk b w' (E.add e hb kb) e)
theorem En.ld (E : En L0 w0 L w l) {b o : Nat} {cs : List Value} {v : Value} {k : Value → Prop} (hm : (b, cs) ∈ l) (hv : cs[o]? = some v) (hk : k v) : ldT (.pointer (some ⟨b, o, none⟩)) w k := ld_of ((E.loc _ hm).1.cell hv) hk
theorem En.lds (E : En L0 w0 L w l) {b n : Nat} {cs : List Value} {k : Value → Prop} (hm : (b, cs) ∈ l) (hn : n = cs.length) (hk : k (.agg cs.toArray)) : ldsT n (.pointer (some ⟨b, 0, none⟩)) w k := lds_of (E.loc _ hm).1.cells hn hk
theorem En.part (E : En L0 w0 L w l) {b o n : Nat} {cs sub : List Value} {k : Value → Prop} (hm : (b, cs) ∈ l) (hs : (cs.drop o).take n = sub) (hn : n = sub.length) (hk : k (.agg sub.toArray)) : ldsT n (.pointer (some ⟨b, o, none⟩)) w k := lds_of ((E.loc _ hm).1.1.part o n hs) hn hk
structure Loc (L : Lab) (w w' : World) (b : Nat) : Prop where
  fr : Fr (fun x => x = b) w w'
  un : L b = none
theorem En.put {l1 l2 : List (Nat × List Value)} {b : Nat} {cs cs' : List Value} (E : En L0 w0 L w (l1 ++ (b, cs) :: l2)) (e : Fr (fun x => x = b) w w') (k : Blk w' b cs') : En L0 w0 L w' (l1 ++ (b, cs') :: l2) := by
  have hb := E.loc (b, cs) (by simp)
  have honce := E.once
  rw [List.map_append, List.map_cons, List.nodup_append] at honce
  obtain ⟨o1, o2, o3⟩ := honce
  have keep : ∀ x ∈ l1 ++ (b, cs) :: l2, x.1 ≠ b → UB L w' x.1 x.2 ∧ w0.heap.size ≤ x.1 := fun x hx hne => ⟨⟨(E.loc x hx).1.1.fr e hne, (E.loc x hx).1.2⟩, (E.loc x hx).2⟩
  refine ⟨⟨E.mu.fr.trans' e (fun _ _ h => h) (fun x hx he => by have := hb.2; simp only at this; omega), E.mu.un, E.mu.lim.fr e⟩, fun x hx => ?_, by have := E.once; rw [List.map_append, List.map_cons] at this ⊢; exact this⟩
  rcases List.mem_append.mp hx with hx | hx
  · exact keep x (List.mem_append.mpr (.inl hx)) (fun he => o3 x.1 (List.mem_map.mpr ⟨x, hx, rfl⟩) b (by simp) he)
  · rcases List.mem_cons.mp hx with rfl | hx
    · exact ⟨⟨k, hb.1.2⟩, hb.2⟩
    · exact keep x (by simp [hx]) (fun he => (List.nodup_cons.mp o2).1 (List.mem_map.mpr ⟨x, hx, by simpa using he⟩))
theorem En.st' (l1 : List (Nat × List Value)) {l2 : List (Nat × List Value)} {b o : Nat} {cs : List Value} {v : Value} {k : World → Prop} (E : En L0 w0 L w (l1 ++ (b, cs) :: l2)) (ho : o < cs.length) (h1 : v.oneCell' = true)
    (hk : ∀ w', En L0 w0 L w' (l1 ++ (b, cs.set o v) :: l2) → Loc L w w' b → k w') : stT (.pointer (some ⟨b, o, none⟩)) v w k :=
  st_of' (E.loc (b, cs) (by simp)).1.1 ho h1 (fun w' e kb => hk w' (E.put e kb) ⟨e, (E.loc (b, cs) (by simp)).1.2⟩)
theorem En.sts' (l1 : List (Nat × List Value)) {l2 : List (Nat × List Value)} {b n : Nat} {cs vs : List Value} {v : Value} {k : World → Prop} (hv : v.cells.toList = vs) (E : En L0 w0 L w (l1 ++ (b, cs) :: l2)) (hn : n = vs.length) (hl : cs.length = vs.length) (h1 : ∀ u ∈ vs, u.oneCell' = true)
    (hk : ∀ w', En L0 w0 L w' (l1 ++ (b, vs) :: l2) → Loc L w w' b → k w') : stsT n (.pointer (some ⟨b, 0, none⟩)) v w k :=
  sts_of' hv (E.loc (b, cs) (by simp)).1.1 hn hl h1 (fun w' e kb => hk w' (E.put e kb) ⟨e, (E.loc (b, cs) (by simp)).1.2⟩)
theorem En.als (E : En L0 w0 L w l) {t n : Nat} {z : Array Value} {v : Value} {vs : List Value} {k : VW} (hv : v.cells.toList = vs) (hn : n = vs.length) (hz : z.toList.length = vs.length) (h1 : ∀ u ∈ vs, u.oneCell' = true)
    (hk : ∀ b w', En L0 w0 L w' ((b, vs) :: l) → Ext w w' → k (.pointer (some ⟨b, 0, none⟩)) w') : allocT t z w fun p w1 => stsT n p v w1 fun w2 => k p w2 :=
  al_of' (fun b w1 e hb kb => sts_of' hv kb hn hz h1 (fun w2 e2 kb2 => by
    have e3 : Ext w w2 := e.trans' e2 (fun _ _ h => h) (fun x hx he => by omega)
    exact hk b w2 (E.add e3 hb kb2) e3))
theorem En.un {α : Type} {kd : Kd α} {p : List Nat} {xs : List α} {v : Value} {n : Nat} (E : En L0 w0 L w l) (h : Sl kd (Un L0 n) w0 p xs v) (hn : n ≤ w0.heap.size) : Sl kd (Un L n) w p xs v := h.unMut E.mu hn
theorem En.unAny {α : Type} {kd : Kd α} {p q : List Nat} {xs : List α} {v : Value} {n : Nat} (E : En L0 w0 L w l) (h : Sl kd (Un L0 n) w0 p xs v) (hn : n ≤ w0.heap.size) : Sl kd Any w q xs v := (E.un h hn).unAny (Nat.le_trans hn E.size)
end
theorem Sl.loc {kd : Kd α} {L : Lab} {w w' : World} {q : List Nat} {xs : List α} {v : Value} {b : Nat} (h : Sl kd (Own L) w q xs v) (e : Loc L w w' b) : Sl kd (Own L) w' q xs v :=
  h.own e.fr (fun x r hx => ⟨fun he => (by rw [he, e.un] at hx; cases hx), hx⟩)
end Go.PT
namespace Go.PT
structure SM (L : Lab) (w : World) (m : Nat) (pre : List Value) (h : Hp) (vc vs : Value) : Prop where
  blk : Blk w m (pre ++ [vc, .int .i64 h.now, .int .i64 h.born, vs, .int .i64 h.code])
  lab : L m = some []
  calls : Sl kCall (Own L) w [0] h.calls vc
  said : Sl kPair (Own L) w [1] h.said vs
  lim : Lim L w
def cellsC (c : Cl) (ut us : Value) : List Value := [.int .i64 c.method, .int .i64 c.pc, ut, us, .int .i64 c.sender, .bool c.dead]
structure Foc (L : Lab) (w : World) (vc : Value) (i : Int) (c : Cl) (b o : Nat) (ut us : Value) : Prop where
  at' : At vc 6 i.toNat b o
  lab : L b = some [0]
  cells : Cells w b o (cellsC c ut us)
  temps : Sl kPair (Own L) w [0, i.toNat, 2] c.temps ut
  stack : Sl kPair (Own L) w [0, i.toNat, 3] c.stack us
variable {L L' : Lab} {w w' : World} {m : Nat} {pre : List Value} {p : Pg} {h : Hp} {u vc vs : Value} {i : Int} {c : Cl} {b o : Nat} {ut us : Value}
theorem SM.ext (S : SM L w m pre h vc vs) (e : Ext w w') : SM L w' m pre h vc vs := ⟨S.blk.ext e, S.lab, S.calls.keepX e, S.said.keepX e, S.lim.fr e⟩
theorem SM.drew (S : SM L w m pre h vc vs) : SM L w.drew m pre h vc vs := S.ext (Fr.refl _ _).drew
theorem Foc.ext (F : Foc L w vc i c b o ut us) (e : Ext w w') : Foc L w' vc i c b o ut us := ⟨F.at', F.lab, F.cells.ext e, F.temps.keepX e, F.stack.keepX e⟩
theorem Foc.drew (F : Foc L w vc i c b o ut us) : Foc L w.drew vc i c b o ut us := F.ext (Fr.refl _ _).drew
theorem SM.cell (S : SM L w m pre h vc vs) {j : Nat} {v : Value} (hv : (pre ++ [vc, .int .i64 h.now, .int .i64 h.born, vs, .int .i64 h.code])[j]? = some v) : w.cell? ⟨m, j, none⟩ = some v := S.blk.cell hv
theorem Sl.other {α : Type} {kd : Kd α} {q r : List Nat} {xs : List α} {v : Value} {x : Nat} (hs : Sl kd (Own L) w q xs v) (e : Fr (fun y => y = x) w w') (hx : L x = some r) (hn : ∀ s, q ++ s ≠ r) : Sl kd (Own L) w' q xs v :=
  hs.own e (fun b s hb => ⟨fun e => hn s (by rw [e, hx] at hb; exact (Option.some.inj hb).symm), hb⟩)
theorem Blk.other {x : Nat} {cs : List Value} {r q : List Nat} {bb : Nat} (h : Blk w bb cs) (hb : L bb = some q) (e : Fr (fun y => y = x) w w') (hx : L x = some r) (hn : q ≠ r) : Blk w' bb cs :=
  h.fr e (fun e => by rw [e, hx] at hb; exact hn (Option.some.inj hb).symm)
theorem SM.ix {k : Value → Prop} (S : SM L w m pre h vc vs) (h0 : 0 ≤ i) (h1 : i < h.calls.length) (hk : ∀ b o ut us, Foc L w vc i (callAt h.calls i) b o ut us → k (.pointer (some ⟨b, o, none⟩))) : ixaT 6 vc (.int .i64 i) k := by
  refine S.calls.ixo_of rfl h0 h1 (fun x b o es mm hx ha ho hK hc => ?_)
  obtain ⟨ut, us, rfl, h2, h3⟩ := hK
  have e : callAt h.calls i = x := callAt_of hx
  refine hk b o ut us ⟨ha, ho.1, ?_, ?_, ?_⟩
  · rw [e]; exact hc
  · rw [e]; exact h2
  · rw [e]; exact h3
theorem methUn_ix {n : Nat} {k : Value → Prop} (hp : Sl kMeth (Un L n) w [] p u) (h0 : 0 ≤ i) (h1 : i < p.length)
    (hk : ∀ b o uo, Cells w b o [.int .i64 (methAt p i).args, .int .i64 (methAt p i).temps, uo] → Sl kPair (Un L n) w [] (methAt p i).ops uo → k (.pointer (some ⟨b, o, none⟩))) : ixaT 3 u (.int .i64 i) k := by
  refine hp.ixo_of rfl h0 h1 (fun x b o es mm hx ha ho hK hc => ?_)
  obtain ⟨uo, rfl, h2⟩ := hK
  have e : methAt p i = x := methAt_of hx
  refine hk b o uo ?_ ?_
  · rw [e]; exact hc
  · rw [e]; exact h2.free (free_un L n)
theorem SM.loc {x : Nat} (S : SM L w m pre h vc vs) (e : Loc L w w' x) : SM L w' m pre h vc vs := ⟨S.blk.fr e.fr (fun he => by have h9 := S.lab; rw [he, e.un] at h9; cases h9), S.lab, S.calls.loc e, S.said.loc e, S.lim.fr e.fr⟩
theorem SM.st {v : Value} {off : Nat} {c' : Cl} {ut' us' : Value} {k : World → Prop} (S : SM L w m pre h vc vs) (F : Foc L w vc i c b o ut us) (h0 : 0 ≤ i) (h1 : i < h.calls.length) (hv : v.oneCell' = true) (hoff : off + 1 ≤ 6)
    (hc : spl (cellsC c ut us) off [v] = cellsC c' ut' us') (ht : Sl kPair (Own L) w [0, i.toNat, 2] c'.temps ut') (hs : Sl kPair (Own L) w [0, i.toNat, 3] c'.stack us')
    (hk : ∀ w', Mut L w L w' → SM L w' m pre (putC h i c') vc vs → Foc L w' vc i c' b o ut' us' → k w') : stT (.pointer (some ⟨b, o + off, none⟩)) v w k := by
  obtain ⟨hl, w', a1, a2, a3, a4⟩ := S.calls.puts (vs := [v]) (off := off) F.at' (by omega) hoff (by simpa using hv)
  refine st_of_stN a1 ?_
  have hT := ht.other a2 hl (by simp)
  have hS := hs.other a2 hl (by simp)
  have hcs := a3 _ F.cells rfl
  rw [hc] at hcs
  refine hk w' (Mut.at a2 hl S.lim) ⟨S.blk.other S.lab a2 hl (by simp), S.lab, a4 c' (fun es k1 k2 => ?_), S.said.other a2 hl (by simp), S.lim.fr a2⟩ ⟨F.at', hl, hcs, hT, hS⟩
  have : es = cellsC c ut us := cells_det k2 F.cells (by rw [kCall.len k1]; rfl)
  subst this
  rw [hc]
  exact ⟨ut', us', rfl, hT, hS⟩
theorem set_self {α : Type} {xs : List α} {n : Nat} {x : α} (h : xs[n]? = some x) : xs.set n x = xs := by
  refine List.ext_getElem? fun j => ?_
  rw [List.getElem?_set]
  split
  · rename_i e; subst e
    rw [h, if_pos (List.getElem?_eq_some_iff.mp h).1]
  · rfl
theorem callAt_get {cs : List Cl} (h0 : 0 ≤ i) (h1 : i < cs.length) : cs[i.toNat]? = some (callAt cs i) := by
  unfold callAt
  rw [List.getD_eq_getElem?_getD, List.getElem?_eq_getElem (by omega)]; rfl
theorem SM.stTemp {v : V} {a : Int} {b2 o2 : Nat} {k : World → Prop} (S : SM L w m pre h vc vs) (F : Foc L w vc i c b o ut us) (h0 : 0 ≤ i) (h1 : i < h.calls.length) (ha : At ut 2 a.toNat b2 o2) (a0 : 0 ≤ a) (a1 : a < c.temps.length)
    (hk : ∀ w', Mut L w L w' → SM L w' m pre (putC h i { c with temps := c.temps.set a.toNat v }) vc vs → Foc L w' vc i { c with temps := c.temps.set a.toNat v } b o ut us → k w') :
    stsT 2 (.pointer (some ⟨b2, o2, none⟩)) (.agg #[.int .i64 v.1, .int .i64 v.2]) w k := by
  obtain ⟨hl, w', b1, b2', b3, b4⟩ := F.temps.puts (vs := [.int .i64 v.1, .int .i64 v.2]) (off := 0) ha (by omega) (by simp [kPair, Kd.flat]) (by simp [Value.oneCell'])
  refine sts_of_stN (vs := [.int .i64 v.1, .int .i64 v.2]) rfl rfl b1 ?_
  have hT : Sl kPair (Own L) w' [0, i.toNat, 2] (c.temps.set a.toNat v) ut := b4 v (fun es k1 k2 => by
    have : es = [.int .i64 (c.temps[a.toNat]'(by omega)).1, .int .i64 (c.temps[a.toNat]'(by omega)).2] := k1
    subst this
    rfl)
  have hS := F.stack.other b2' hl (by simp)
  have hcs : Cells w' b o (cellsC c ut us) := F.cells.fr b2' (fun e => by have h9 := F.lab; rw [e, hl] at h9; simp at h9)
  refine hk w' (Mut.at b2' hl S.lim) ⟨S.blk.other S.lab b2' hl (by simp), S.lab, ?_, S.said.other b2' hl (by simp), S.lim.fr b2'⟩ ⟨F.at', F.lab, hcs, hT, hS⟩
  refine S.calls.kid F.at' (by omega) b2' (fun x r hx hr => ⟨fun e => ?_, hx⟩) F.cells rfl ⟨ut, us, rfl, hT, hS⟩
  rw [e, hl] at hx
  have := Option.some.inj hx
  simp at this
  subst this
  exact hr rfl
theorem SM.grow {q : Nat} (S : SM L w m pre h vc vs) (F : Foc L w vc i c b o ut us) (h0 : 0 ≤ i) (h1 : i < h.calls.length) (hc : callAt h.calls i = c) (e : Fr (fun x => L x = some [0, i.toNat, q]) w w') (hx : Lx [0, i.toNat, q] w L L') (hl : Lim L' w')
    (ht : q = 2 → Sl kPair (Own L') w' [0, i.toNat, 2] c.temps ut) (hs : q = 3 → Sl kPair (Own L') w' [0, i.toNat, 3] c.stack us) (hq : q = 2 ∨ q = 3) : Mut L w L' w' ∧ SM L' w' m pre h vc vs ∧ Foc L' w' vc i c b o ut us := by
  have lab : ∀ {x : Nat} {r : List Nat}, L x = some r → L' x = some r := fun hr => hx.lab S.lim hr
  have hm := Mut.of e hx hl
  have keep : ∀ {α : Type} {kd : Kd α} {r : List Nat} {xs : List α} {v : Value}, Sl kd (Own L) w r xs v → (∀ s, r ++ s ≠ [0, i.toNat, q]) → Sl kd (Own L') w' r xs v := fun {α kd r xs v} hs hn =>
    hs.own e (fun x s hb => ⟨fun e => hn s (by rw [hb] at e; exact Option.some.inj e), lab hb⟩)
  have hT : Sl kPair (Own L') w' [0, i.toNat, 2] c.temps ut := by
    rcases hq with rfl | rfl
    · exact ht rfl
    · exact keep F.temps (by simp)
  have hS : Sl kPair (Own L') w' [0, i.toNat, 3] c.stack us := by
    rcases hq with rfl | rfl
    · exact keep F.stack (by simp)
    · exact hs rfl
  have hcs : Cells w' b o (cellsC c ut us) := F.cells.fr e (fun e => by have h9 := F.lab; rw [h9] at e; simp at e)
  refine ⟨hm, ⟨S.blk.fr e (fun e => by have h9 := S.lab; rw [h9] at e; simp at e), lab S.lab, ?_, keep S.said (by simp), hl⟩, ⟨F.at', lab F.lab, hcs, hT, hS⟩⟩
  have := S.calls.kid (L' := L') (x' := c) F.at' (by omega) e (fun x r hr hne => ⟨fun e => ?_, lab hr⟩) F.cells rfl ⟨ut, us, rfl, hT, hS⟩
  · rwa [set_self (by rw [← hc]; exact callAt_get h0 h1)] at this
  · rw [hr] at e
    have := Option.some.inj e
    simp at this
    subst this
    exact hne rfl
theorem SM.stM {off : Nat} {v : Value} {h' : Hp} {vc' vs' : Value} {k : World → Prop} (S : SM L w m pre h vc vs) (hv : v.oneCell' = true) (ho : off < pre.length + 5)
    (hb : (pre ++ [vc, .int .i64 h.now, .int .i64 h.born, vs, .int .i64 h.code]).set off v = pre ++ [vc', .int .i64 h'.now, .int .i64 h'.born, vs', .int .i64 h'.code]) (hc : Sl kCall (Own L) w [0] h'.calls vc') (hs : Sl kPair (Own L) w [1] h'.said vs')
    (hk : ∀ w', Mut L w L w' → Fr (fun x => x = m) w w' → SM L w' m pre h' vc' vs' → k w') : stT (.pointer (some ⟨m, off, none⟩)) v w k := by
  refine st_of' S.blk (by simp; omega) hv (fun w' e hB => ?_)
  rw [hb] at hB
  exact hk w' (Mut.at e S.lab S.lim) e ⟨hB, S.lab, hc.other e S.lab (by simp), hs.other e S.lab (by simp), S.lim.fr e⟩
theorem SM.growM {q : Nat} (S : SM L w m pre h vc vs) (e : Fr (fun x => L x = some [q]) w w') (hx : Lx [q] w L L') (hl : Lim L' w')
    (hc : q = 0 → Sl kCall (Own L') w' [0] h.calls vc) (hs : q = 1 → Sl kPair (Own L') w' [1] h.said vs) (hq : q = 0 ∨ q = 1) : Mut L w L' w' ∧ SM L' w' m pre h vc vs := by
  have lab : ∀ {x : Nat} {r : List Nat}, L x = some r → L' x = some r := fun hr => hx.lab S.lim hr
  have hm := Mut.of e hx hl
  refine ⟨hm, S.blk.fr e (fun e => by have h9 := S.lab; rw [h9] at e; simp at e), lab S.lab, ?_, ?_, hl⟩
  · rcases hq with rfl | rfl
    · exact hc rfl
    · exact S.calls.own e (fun x s hb => ⟨fun e => by rw [hb] at e; simp at e, lab hb⟩)
  · rcases hq with rfl | rfl
    · exact S.said.own e (fun x s hb => ⟨fun e => by rw [hb] at e; simp at e, lab hb⟩)
    · exact hs rfl
end Go.PT
namespace Go.PT
variable {α : Type}
def noL : Lab := fun _ => none
theorem noL_lim (w : World) : Lim noL w := fun _ _ h => by cases h
theorem noL_born (w : World) : Born w noL := fun _ _ h => by cases h
theorem En.start (w : World) : En noL w noL w [] := En.init (noL_lim w)
theorem En.toExt {w0 w : World} {L : Lab} {l : List (Nat × List Value)} (E : En noL w0 L w l) : Ext w0 w := E.mu.fr.to (fun b _ h => h rfl)
theorem En.born {w0 w : World} {L : Lab} {l : List (Nat × List Value)} (E : En noL w0 L w l) : Born w0 L := E.mu.still (Nat.le_refl _) (noL_born w0)
theorem En.any {kd : Kd α} {w0 w : World} {L : Lab} {l : List (Nat × List Value)} {p q : List Nat} {xs : List α} {v : Value} (E : En noL w0 L w l) (h : Sl kd Any w0 p xs v) : Sl kd Any w q xs v := (h.ext E.toExt).re
theorem sllE_of {P : Program} {t : Nat} {kd : Kd α} {ok : Ok} {w : World} {p q : List Nat} {xs : List α} {v : Value} {l : Int} {k : VW} (hc : appB P t (P.elem t) kd.sz = true) (hf : Free ok) (hv : Sl kd ok w p xs v)
    (h0 : 0 ≤ l) (h1 : l ≤ xs.length) (hk : ∀ v', Sl kd ok w q (xs.drop l.toNat) v' → k v' w) : opT P (Instr.sliceAt t v (some (.int .i64 l)) none none) w k := sll_of hc hf hv h0 h1 hk
theorem slrE_of {P : Program} {t : Nat} {kd : Kd α} {ok : Ok} {w : World} {p q : List Nat} {xs : List α} {v : Value} {h : Int} {k : VW} (hc : appB P t (P.elem t) kd.sz = true) (hf : Free ok) (hv : Sl kd ok w p xs v)
    (h0 : 0 ≤ h) (h2 : h ≤ xs.length) (hk : ∀ v', Sl kd ok w q (xs.take h.toNat) v' → k v' w) : opT P (Instr.sliceAt t v none (some (.int .i64 h)) none) w k := slr_of hc hf hv h0 h2 hk
theorem Sl.drewX {kd : Kd α} {L : Lab} {w : World} {p : List Nat} {xs : List α} {v : Value} (h : Sl kd (Own L) w p xs v) : Sl kd (Own L) w.drew p xs v := h.keepX (Fr.refl _ _).drew
structure Grw (q : List Nat) (L : Lab) (w : World) (L' : Lab) (w' : World) : Prop where
  fr : Fr (fun b => L b = some q) w w'
  lx : Lx q w L L'
  lim : Lim L' w'
section
variable {q : List Nat} {L L' : Lab} {w w' : World}
theorem Grw.mu (g : Grw q L w L' w') : Mut L w L' w' := Mut.of g.fr g.lx g.lim
theorem Sl.grow {kd : Kd α} {r : List Nat} {xs : List α} {v : Value} (h : Sl kd (Own L) w r xs v) (g : Grw q L w L' w') (hl : Lim L w) (hn : ∀ s, r ++ s ≠ q) : Sl kd (Own L') w' r xs v :=
  h.own g.fr (fun x s hb => ⟨fun e => hn s (by rw [hb] at e; exact Option.some.inj e), g.lx.lab hl hb⟩)
theorem grow_lit {P : Program} {t ty sz : Nat} {f : α → List Value} {h1 : ∀ a, (f a).length = sz} {h2 : ∀ a, ∀ v ∈ f a, v.oneCell' = true} {xs : List α} (ys : List α) {v : Value} {b n c : Nat} {k : VW}
    (hc : appB P t (P.elem t) sz = true) (hv : Sl (Kd.flat sz f h1 h2) (Own L) w q xs v) (hb : Blk w b ((ys.map f).flatten)) (hn' : n = ys.length) (hn : xs.length + ys.length ≤ 1073741824) (hL : Lim L w)
    (hk : ∀ v' w' L', Grw q L w L' w' → Sl (Kd.flat sz f h1 h2) (Own L') w' q xs v → Sl (Kd.flat sz f h1 h2) (Own L') w' q (xs ++ ys) v' → k v' w') : opT P (Builtin.append_ #[t, t] ty #[v, .slice (some ⟨b, 0, none⟩) n c]) w k := by
  subst hn'
  refine app_of2 (kd := Kd.flat sz f h1 h2) hc hv (src_row hc (flatten_len h1 ys) hb.cells (fun u hu => ?_)) (fun j y hj => ⟨f y, rfl, fun i c hi => flatten_get h1 ys j y i c hj hi⟩) hn hL (fun v' w' L' a b c d e => hk v' w' L' ⟨a, b, c⟩ d e)
  obtain ⟨l, hl, hu⟩ := List.mem_flatten.mp hu
  obtain ⟨a, _, rfl⟩ := List.mem_map.mp hl
  exact h2 a u hu
theorem grow_row {P : Program} {t ty sz : Nat} {f : α → List Value} {h1 : ∀ a, (f a).length = sz} {h2 : ∀ a, ∀ v ∈ f a, v.oneCell' = true} {xs ys : List α} {v x : Value} {ok : Ok} {p : List Nat} {k : VW}
    (hc : appB P t (P.elem t) sz = true) (hv : Sl (Kd.flat sz f h1 h2) (Own L) w q xs v) (hx : Sl (Kd.flat sz f h1 h2) ok w p ys x) (hn : xs.length + ys.length ≤ 1073741824) (hL : Lim L w)
    (hk : ∀ v' w' L', Grw q L w L' w' → Sl (Kd.flat sz f h1 h2) (Own L') w' q xs v → Sl (Kd.flat sz f h1 h2) (Own L') w' q (xs ++ ys) v' → k v' w') : opT P (Builtin.append_ #[t, t] ty #[v, x]) w k := by
  obtain ⟨news, s1, s2⟩ := Sl.src (kd := Kd.flat sz f h1 h2) hc hx
  exact app_of2 (kd := Kd.flat sz f h1 h2) hc hv s1 (fun j y hj => s2 j y hj) hn hL (fun v' w' L' a b c d e => hk v' w' L' ⟨a, b, c⟩ d e)
theorem grow_one {P : Program} {t ty : Nat} {kd : Kd α} {xs : List α} (y : α) {v : Value} {b n c : Nat} {es : List Value} {k : VW}
    (hc : appB P t (P.elem t) kd.sz = true) (hv : Sl kd (Own L) w q xs v) (hb : Blk w b es) (hy : kd.K (Own L) w (q ++ [xs.length]) y es) (hn1 : n = 1) (hn : xs.length + 1 ≤ 1073741824) (hL : Lim L w)
    (hk : ∀ v' w' L', Grw q L w L' w' → Sl kd (Own L') w' q xs v → Sl kd (Own L') w' q (xs ++ [y]) v' → k v' w') : opT P (Builtin.append_ #[t, t] ty #[v, .slice (some ⟨b, 0, none⟩) n c]) w k := by
  subst hn1
  refine app_of2 (kd := kd) (ys := [y]) hc hv (src_row hc (news := es) (by rw [kd.len hy]; simp) hb.cells (kd.one hy)) (fun j z hj => ?_) hn hL (fun v' w' L' a b c d e => hk v' w' L' ⟨a, b, c⟩ d e)
  cases j with
  | zero =>
    obtain rfl : y = z := by simpa using hj
    exact ⟨es, hy, fun i c hi => by simpa using hi⟩
  | succ j => simp at hj
theorem Sl.none0 {kd : Kd α} {ok : Ok} {p : List Nat} {A : Option Addr} : Sl kd ok w p [] (.slice A 0 0) := ⟨A, 0, rfl, Nat.le_refl _, .inl rfl⟩
end
section
variable {L0 L L' M : Lab} {w0 w w' : World} {l : List (Nat × List Value)} {q : List Nat}
theorem En.pop {x : Nat × List Value} (E : En L0 w0 L w (x :: l)) : En L0 w0 L w l := ⟨E.mu, fun x hx => E.loc x (.tail _ hx), (List.nodup_cons.mp E.once).2⟩
theorem En.grow (E : En L0 w0 L w l) (g : Grw q L w L' w') : En L0 w0 L' w' l := E.call g.mu
theorem En.blk (E : En L0 w0 L w l) {b : Nat} {cs : List Value} (hm : (b, cs) ∈ l) : Blk w b cs := (E.loc _ hm).1.1
theorem En.join (E : En L0 w0 L w l) (q : List Nat) (e : Ext w w') (hb : Born w M) (hm : Lim M w') : En L0 w0 (joinL L q M) w' l := E.call (Mut.join e E.mu.lim hb hm)
end
section
variable {L L' M : Lab} {w w' : World} {m : Nat} {pre : List Value} {h : Hp} {vc vs : Value} {i : Int} {c : Cl} {b o : Nat} {ut us : Value} {q : List Nat}
theorem SM.join (S : SM L w m pre h vc vs) (hm : Lim M w) : SM (joinL L q M) w m pre h vc vs := ⟨S.blk, joinL_left S.lab, S.calls.inL, S.said.inL, joinL_lim S.lim hm⟩
theorem Foc.join (F : Foc L w vc i c b o ut us) : Foc (joinL L q M) w vc i c b o ut us := ⟨F.at', joinL_left F.lab, F.cells, F.temps.inL, F.stack.inL⟩
theorem SM.app1 {P : Program} {t ty : Nat} {v : V} {bb n cc : Nat} {k : VW} (hc' : appB P t (P.elem t) 2 = true) (S : SM L w m pre h vc vs) (F : Foc L w vc i c b o ut us) (h0 : 0 ≤ i) (h1 : i < h.calls.length) (hc : callAt h.calls i = c) (hb : Blk w bb [.int .i64 v.1, .int .i64 v.2]) (hn : n = 1) (hr : c.stack.length + 1 ≤ 1073741824)
    (hk : ∀ v' w' L', Mut L w L' w' → SM L' w' m pre h vc vs → Foc L' w' vc i c b o ut us → Sl kPair (Own L') w' [0, i.toNat, 3] (c.stack ++ [v]) v' → k v' w') : opT P (Builtin.append_ #[t, t] ty #[us, .slice (some ⟨bb, 0, none⟩) n cc]) w k := by
  refine grow_lit [v] hc' F.stack (by simpa using hb) hn (by simpa using hr) S.lim (fun v' w' L' g d e => ?_)
  obtain ⟨a1, a2, a3⟩ := S.grow (q := 3) F h0 h1 hc g.fr g.lx g.lim (fun e => by cases e) (fun _ => d) (.inr rfl)
  exact hk v' w' L' a1 a2 a3 e
theorem SM.appSaid {P : Program} {t ty : Nat} {v : V} {bb n cc : Nat} {k : VW} (hc' : appB P t (P.elem t) 2 = true) (S : SM L w m pre h vc vs) (hb : Blk w bb [.int .i64 v.1, .int .i64 v.2]) (hn : n = 1) (hr : h.said.length + 1 ≤ 1073741824)
    (hk : ∀ v' w' L', Mut L w L' w' → SM L' w' m pre h vc vs → Sl kPair (Own L') w' [1] (h.said ++ [v]) v' → k v' w') : opT P (Builtin.append_ #[t, t] ty #[vs, .slice (some ⟨bb, 0, none⟩) n cc]) w k := by
  refine grow_lit [v] hc' S.said (by simpa using hb) hn (by simpa using hr) S.lim (fun v' w' L' g d e => ?_)
  obtain ⟨a1, a2⟩ := S.growM (q := 1) g.fr g.lx g.lim (fun e => by cases e) (fun _ => d) (.inr rfl)
  exact hk v' w' L' a1 a2 e
theorem SM.appCall {P : Program} {t ty : Nat} {c' : Cl} {ut' us' : Value} {bb n cc : Nat} {k : VW} (hc' : appB P t (P.elem t) 6 = true) (S : SM L w m pre h vc vs) (hb : Blk w bb (cellsC c' ut' us')) (ht : Sl kPair (Own L) w [0, h.calls.length, 2] c'.temps ut') (hs : Sl kPair (Own L) w [0, h.calls.length, 3] c'.stack us') (hn : n = 1) (hr : h.calls.length + 1 ≤ 1073741824)
    (hk : ∀ v' w' L', Mut L w L' w' → SM L' w' m pre h vc vs → Sl kCall (Own L') w' [0] (h.calls ++ [c']) v' → k v' w') : opT P (Builtin.append_ #[t, t] ty #[vc, .slice (some ⟨bb, 0, none⟩) n cc]) w k := by
  refine grow_one (kd := kCall) c' hc' S.calls hb ⟨ut', us', rfl, ht, hs⟩ hn hr S.lim (fun v' w' L' g d e => ?_)
  obtain ⟨a1, a2⟩ := S.growM (q := 0) g.fr g.lx g.lim (fun _ => d) (fun e => by cases e) (.inl rfl)
  exact hk v' w' L' a1 a2 e
end
end Go.PT
namespace Go.PT
def i64B (P : Program) (t : Nat) : Bool := match P.underlying t with | some (.int .i64) => true | _ => false
def pairB (P : Program) (t : Nat) : Bool :=
  (match P.underlying t with
  | some (.struct fs) => (match fs.toList with | [f, g] => f.offset == 0 && g.offset == 1 && f.name != "_" && g.name != "_" && i64B P f.type && i64B P g.type | _ => false)
  | _ => false) && !P.stoodInHeld t && !P.eqGuardType P.depth t
theorem i64B_of {P : Program} {t : Nat} (h : i64B P t = true) : P.underlying t = some (.int .i64) := by
  unfold i64B at h
  split at h
  · assumption
  · cases h
theorem part_i64 {P : Program} {t off : Nat} {xs : Array Value} {v : Value} {w : World} (h : P.underlying t = some (.int .i64)) (hx : xs[off]? = some v) : (part t xs off).run P w = .ok v w := by
  simp [part, isAgg, run_underlying h, hx]
theorem run_pairEq {P : Program} {t : Nat} (h : pairB P t = true) (a b c d : Int) (w : World) : (Op.equal t (.agg #[.int .i64 a, .int .i64 b]) (.agg #[.int .i64 c, .int .i64 d])).run P w = .ok (decide ((a, b) = (c, d))) w := by
  unfold pairB at h
  rw [Bool.and_eq_true, Bool.and_eq_true] at h
  obtain ⟨⟨h1, h2⟩, h3⟩ := h
  split at h1
  · rename_i fs hfs
    have hf : P.fieldsOf t = fs := by simp [Program.fieldsOf, hfs]
    split at h1
    · rename_i f g hfg
      simp only [Bool.and_eq_true, beq_iff_eq, bne_iff_ne, ne_eq] at h1
      obtain ⟨⟨⟨⟨⟨o1, o2⟩, n1⟩, n2⟩, u1⟩, u2⟩ := h1
      have hmd : Op.maxDepth = (9998 + 1) + 1 := rfl
      unfold Op.equal
      rw [hmd, run_equalIn_struct w 9999 t _ _ (by rw [hf]; exact hfs) (by simpa using h2), hf, hfg]
      have e1 : (Op.equalIn 9999 f.type (.int .i64 a) (.int .i64 c)).run P w = .ok (a == c) w := run_equalIn_int (P := P) w 9998 f.type .i64 .i64 a c (i64B_of u1)
      have e2 : (Op.equalIn 9999 g.type (.int .i64 b) (.int .i64 d)).run P w = .ok (b == d) w := run_equalIn_int (P := P) w 9998 g.type .i64 .i64 b d (i64B_of u2)
      have q1 : ∀ x y : Int, (part f.type #[.int .i64 x, .int .i64 y] 0).run P w = .ok (.int .i64 x) w := fun x y => part_i64 (i64B_of u1) rfl
      have q2 : ∀ x y : Int, (part g.type #[.int .i64 x, .int .i64 y] 1).run P w = .ok (.int .i64 y) w := fun x y => part_i64 (i64B_of u2) rfl
      have n1' : (f.name ≠ "_") = True := by simp [n1]
      have n2' : (g.name ≠ "_") = True := by simp [n2]
      simp only [Op.eqFields, n1', n2', if_true, Sem.run_bind, o1, o2, q1, q2, Result.andThen_ok, e1, e2]
      clear hmd hf hfg hfs
      rcases Decidable.em (a = c) with rfl | hac <;> rcases Decidable.em (b = d) with rfl | hbd <;> simp [*, Op.eqFields]
    · cases h1
  · cases h1
theorem eqlP_of {P : Program} {t : Nat} {x y : Operand} {u v : Int × Int} {w : World} {k : VW} (h : pairB P t = true) (hk : k (.bool (decide (u = v))) w) :
    opT P (do eqGuard .eql t x y (.agg #[.int .i64 u.1, .int .i64 u.2]) (.agg #[.int .i64 v.1, .int .i64 v.2]); binOp .eql t (.agg #[.int .i64 u.1, .int .i64 u.2]) (.agg #[.int .i64 v.1, .int .i64 v.2])) w k := by
  have h3 : P.eqGuardType P.depth t = false := by unfold pairB at h; simp only [Bool.and_eq_true, Bool.not_eq_true'] at h; exact h.2
  have e := run_pairEq h u.1 u.2 v.1 v.2 w
  have : (do eqGuard .eql t x y (.agg #[.int .i64 u.1, .int .i64 u.2]) (.agg #[.int .i64 v.1, .int .i64 v.2]); binOp .eql t (.agg #[.int .i64 u.1, .int .i64 u.2]) (.agg #[.int .i64 v.1, .int .i64 v.2]) : Sem Value).run P w = .ok (.bool (decide (u = v))) w := by
    obtain ⟨u1, u2⟩ := u
    obtain ⟨v1, v2⟩ := v
    simp only at e
    simp [eqGuard, binOp, h3, e]
  unfold opT
  simp only [this]
  exact hk
theorem neqP_of {P : Program} {t : Nat} {x y : Operand} {u v : Int × Int} {w : World} {k : VW} (h : pairB P t = true) (hk : k (.bool (decide (u ≠ v))) w) :
    opT P (do eqGuard .neq t x y (.agg #[.int .i64 u.1, .int .i64 u.2]) (.agg #[.int .i64 v.1, .int .i64 v.2]); binOp .neq t (.agg #[.int .i64 u.1, .int .i64 u.2]) (.agg #[.int .i64 v.1, .int .i64 v.2])) w k := by
  have h3 : P.eqGuardType P.depth t = false := by unfold pairB at h; simp only [Bool.and_eq_true, Bool.not_eq_true'] at h; exact h.2
  have e := run_pairEq h u.1 u.2 v.1 v.2 w
  have : (do eqGuard .neq t x y (.agg #[.int .i64 u.1, .int .i64 u.2]) (.agg #[.int .i64 v.1, .int .i64 v.2]); binOp .neq t (.agg #[.int .i64 u.1, .int .i64 u.2]) (.agg #[.int .i64 v.1, .int .i64 v.2]) : Sem Value).run P w = .ok (.bool (decide (u ≠ v))) w := by
    obtain ⟨u1, u2⟩ := u
    obtain ⟨v1, v2⟩ := v
    simp only at e
    simp [eqGuard, binOp, h3, e, bne]
  unfold opT
  simp only [this]
  exact hk
end Go.PT
namespace Go.PT
open Go.Proofs
def Fspec_HeapRun.l1 (x2 x6 x7 x8 x9 : Value) (w : World) (Kn Kb Kr : LW) : Prop := ∀ _ : Env,
  binT .lss x9 x2 fun t27 =>
  condT t27
  (nilT PR x8 fun t30 =>
  fadT 1 t30 fun t31 =>
  fadT 4 t31 fun t32 =>
  ldT t32 w fun t33 =>
  binT .eql t33 (.int .i64 0) fun t34 =>
  condT t34
  (clT PR 136 [x8] w fun t39 w12 =>
  binT .add x9 (.int .i64 1) fun t37 =>
  Kn [x2, x6, x7, x8, t37] w12)
  (Kb [x2, x6, x7, x8, x9] w))
  (Kb [x2, x6, x7, x8, x9] w)
def Fspec_HeapRun.k2 (x2 x6 x7 x8 x9 : Value) (w : World) (R : VW) : Prop := ∀ _ : Env,
  nilT PR x8 fun t41 =>
  fadT 1 t41 fun t42 =>
  ldsT 5 t42 w fun t43 =>
  stsT 5 x6 t43 w fun w13 =>
  ldsT 5 x6 w13 fun r14 =>
  R (.tuple #[r14, (.bool true)]) w13
def Fspec_HeapRun.r3 (x2 x6 x7 x8 x9 : Value) (w : World) (R : VW) : Prop := ∀ _ : Env,
  ldsT 5 x6 w fun r15 =>
  R (.tuple #[r15, x7]) w
def Fspec_HeapRun (t0 t1 t2 : Value) (w : World) (R : VW) : Prop :=
  boxT 42 t0 w fun t3 w1 =>
  boxT 57 t1 w1 fun t4 w2 =>
  allocT 57 #[(.slice none 0 0), (.int .i64 0), (.int .i64 0), (.slice none 0 0), (.int .i64 0)] w2 fun t6 w3 =>
  ldsT 1 t3 w3 fun t10 =>
  ldsT 5 t4 w3 fun t11 =>
  clT PR 92 [t10, t11] w3 fun t12 w4 =>
  notT t12 fun t13 =>
  condT t13
  (bldT #[(.slice none 0 0), (.int .i64 0), (.int .i64 0), (.slice none 0 0), (.int .i64 0)] [] fun t19 =>
  stsT 5 t6 t19 w4 fun w5 =>
  ldsT 5 t6 w5 fun r6 =>
  R (.tuple #[r6, (.bool false)]) w5)
  (clT PR 128 [t2, (.int .i64 0), (.int .i64 400)] w4 fun t16 w7 =>
  notT t16 fun t17 =>
  condT t17
  (bldT #[(.slice none 0 0), (.int .i64 0), (.int .i64 0), (.slice none 0 0), (.int .i64 0)] [] fun t19 =>
  stsT 5 t6 t19 w7 fun w8 =>
  ldsT 5 t6 w8 fun r9 =>
  R (.tuple #[r9, (.bool false)]) w8)
  (ldsT 1 t3 (w7.drew) fun t20 =>
  ldsT 5 t4 (w7.drew) fun t21 =>
  clT PR 135 [t21] (w7.drew) fun t22 w10 =>
  (ldsT 1 t3 w10 fun u => u = t20) ∧
  bldT #[(.slice none 0 0), (.slice none 0 0), (.int .i64 0), (.int .i64 0), (.slice none 0 0), (.int .i64 0)] [(0, 1, t20), (1, 5, t22)] fun t23 =>
  boxT 175 t23 w10 fun t24 w11 =>
  loopT (fun s w Kn Kb Kr => Fspec_HeapRun.l1 (s.headD undef) (s.tail.headD undef) (s.tail.tail.headD undef) (s.tail.tail.tail.headD undef) (s.tail.tail.tail.tail.headD undef) w Kn Kb Kr) [t2, t6, (.bool false), t24, (.int .i64 0)] w11
  (fun s w => Fspec_HeapRun.k2 (s.headD undef) (s.tail.headD undef) (s.tail.tail.headD undef) (s.tail.tail.tail.headD undef) (s.tail.tail.tail.tail.headD undef) w R)
  (fun s w => Fspec_HeapRun.r3 (s.headD undef) (s.tail.headD undef) (s.tail.tail.headD undef) (s.tail.tail.tail.headD undef) (s.tail.tail.tail.tail.headD undef) w R)))
def Fspec_HeapRun.H : Hints := {draw := fun i => match i with | 3 => { T := [0, 0, 2, 7, 15, 31] } | _ => {}, loop := fun i => match i with | 5 => some (0, [2, 6, 7, 8, 9]) | _ => none}
theorem Fspec_HeapRun.eq (t0 t1 t2 : Value) : trF PR CX Fspec_HeapRun.H Tryz.f57 [t0, t1, t2] = Fspec_HeapRun t0 t1 t2 := by kernel_rfl
theorem Fspec_HeapRun.cl {t0 t1 t2 : Value} {w : World} {R : VW} (h : Fspec_HeapRun t0 t1 t2 w R) : clT PR 57 [t0, t1, t2] w R := cl_of_tr (H := Fspec_HeapRun.H) ctxOk Tryz.func57 rfl (by rw [Fspec_HeapRun.eq]; exact h)
def Fspec_l11Copy (t0 : Value) (w : World) (R : VW) : Prop :=
  boxT 89 t0 w fun t1 w1 =>
  allocT 89 #[(.int .i64 0), (.int .i64 0), (.slice none 0 0), (.slice none 0 0), (.int .i64 0), (.bool false)] w1 fun t2 w2 =>
  bslT 127 0 2 #[] [] w2 fun t3 w3 =>
  fadT 2 t1 fun t4 =>
  ldT t4 w3 fun t5 =>
  opT PR (Builtin.append_ #[35, 35] 35 #[t3, t5]) w3 fun t6 w4 =>
  fadT 2 t1 fun t7 =>
  stT t7 t6 w4 fun w5 =>
  bslT 127 0 2 #[] [] w5 fun t8 w6 =>
  fadT 3 t1 fun t9 =>
  ldT t9 w6 fun t10 =>
  opT PR (Builtin.append_ #[35, 35] 35 #[t8, t10]) w6 fun t11 w7 =>
  fadT 3 t1 fun t12 =>
  stT t12 t11 w7 fun w8 =>
  ldsT 6 t1 w8 fun t13 =>
  stsT 6 t2 t13 w8 fun w9 =>
  ldsT 6 t2 w9 fun r10 =>
  R r10 w9
def Fspec_l11Copy.H : Hints := {}
theorem Fspec_l11Copy.eq (t0 : Value) : trF PR CX Fspec_l11Copy.H Tryz.f93 [t0] = Fspec_l11Copy t0 := by kernel_rfl
theorem Fspec_l11Copy.cl {t0 : Value} {w : World} {R : VW} (h : Fspec_l11Copy t0 w R) : clT PR 93 [t0] w R := cl_of_tr (H := Fspec_l11Copy.H) ctxOk Tryz.func93 rfl (by rw [Fspec_l11Copy.eq]; exact h)
def Fspec_l11Anew.l1 (x1 x2 x3 x4 : Value) (w : World) (Kn Kb Kr : LW) : Prop := ∀ _ : Env,
  fadT 0 x1 fun t9 =>
  ldT t9 w fun t10 =>
  lenT t10 fun t11 =>
  binT .lss x4 t11 fun t12 =>
  condT t12
  (fadT 0 x3 fun t15 =>
  ldT t15 (w.drew) fun t16 =>
  fadT 0 x1 fun t17 =>
  ldT t17 (w.drew) fun t18 =>
  ixaT 6 t18 x4 fun t20 =>
  ldsT 6 t20 (w.drew) fun t21 =>
  clT PR 93 [t21] (w.drew) fun t22 w7 =>
  (ldT t15 w7 fun u => u = t16) ∧
  bslT 89 1 6 #[(.int .i64 0), (.int .i64 0), (.slice none 0 0), (.slice none 0 0), (.int .i64 0), (.bool false)] [(0, 6, t22)] w7 fun t23 w8 =>
  (ldT t15 w8 fun u => u = t16) ∧
  opT PR (Builtin.append_ #[55, 55] 55 #[t16, t23]) w8 fun t24 w9 =>
  fadT 0 x3 fun t25 =>
  stT t25 t24 w9 fun w10 =>
  binT .add x4 (.int .i64 1) fun t14 =>
  Kn [x1, x2, x3, t14] w10)
  (Kb [x1, x2, x3, x4] w)
def Fspec_l11Anew.k2 (x1 x2 x3 x4 : Value) (w : World) (R : VW) : Prop := ∀ _ : Env,
  bslT 127 0 2 #[] [] w fun t26 w11 =>
  fadT 3 x1 fun t27 =>
  ldT t27 w11 fun t28 =>
  opT PR (Builtin.append_ #[35, 35] 35 #[t26, t28]) w11 fun t29 w12 =>
  fadT 3 x3 fun t30 =>
  stT t30 t29 w12 fun w13 =>
  ldsT 5 x3 w13 fun t31 =>
  stsT 5 x2 t31 w13 fun w14 =>
  ldsT 5 x2 w14 fun r15 =>
  R r15 w14
def Fspec_l11Anew.r3 (x1 x2 x3 x4 : Value) (w : World) (R : VW) : Prop := ∀ _ : Env,
  ldsT 5 x2 w fun r16 =>
  R r16 w
def Fspec_l11Anew (t0 : Value) (w : World) (R : VW) : Prop :=
  boxT 57 t0 w fun t1 w1 =>
  allocT 57 #[(.slice none 0 0), (.int .i64 0), (.int .i64 0), (.slice none 0 0), (.int .i64 0)] w1 fun t2 w2 =>
  ldsT 5 t1 w2 fun t5 =>
  allocT 57 #[(.slice none 0 0), (.int .i64 0), (.int .i64 0), (.slice none 0 0), (.int .i64 0)] w2 fun t3 w3 =>
  stsT 5 t3 t5 w3 fun w4 =>
  bslT 89 0 6 #[] [] w4 fun t6 w5 =>
  fadT 0 t3 fun t7 =>
  stT t7 t6 w5 fun w6 =>
  loopT (fun s w Kn Kb Kr => Fspec_l11Anew.l1 (s.headD undef) (s.tail.headD undef) (s.tail.tail.headD undef) (s.tail.tail.tail.headD undef) w Kn Kb Kr) [t1, t2, t3, (.int .i64 0)] w6
  (fun s w => Fspec_l11Anew.k2 (s.headD undef) (s.tail.headD undef) (s.tail.tail.headD undef) (s.tail.tail.tail.headD undef) w R)
  (fun s w => Fspec_l11Anew.r3 (s.headD undef) (s.tail.headD undef) (s.tail.tail.headD undef) (s.tail.tail.tail.headD undef) w R)
def Fspec_l11Anew.H : Hints := {draw := fun i => match i with | 6 => { T := [0, 1, 0, 4, 0, 28, 60, 124, 252, 511, 1023, 2047] } | _ => {}, loop := fun i => match i with | 4 => some (0, [1, 2, 3, 4]) | _ => none}
theorem Fspec_l11Anew.eq (t0 : Value) : trF PR CX Fspec_l11Anew.H Tryz.f135 [t0] = Fspec_l11Anew t0 := by kernel_rfl
theorem Fspec_l11Anew.cl {t0 : Value} {w : World} {R : VW} (h : Fspec_l11Anew t0 w R) : clT PR 135 [t0] w R := cl_of_tr (H := Fspec_l11Anew.H) ctxOk Tryz.func135 rfl (by rw [Fspec_l11Anew.eq]; exact h)
def Fspec_l11Heap_step (t0 : Value) (w : World) (R : VW) : Prop :=
  clT PR 197 [t0] w fun t10 w1 =>
  nilT PR t0 fun t12 =>
  fadT 0 t12 fun t13 =>
  fadT 0 t13 fun t14 =>
  ldT t14 (w1.drew) fun t15 =>
  nilT PR t10 fun t17 =>
  fadT 0 t17 fun t18 =>
  ldT t18 (w1.drew) fun t19 =>
  ixaT 3 t15 t19 fun t20 =>
  fadT 2 t20 fun t21 =>
  ldT t21 (w1.drew) fun t22 =>
  nilT PR t10 fun t24 =>
  fadT 1 t24 fun t25 =>
  ldT t25 (w1.drew) fun t26 =>
  lenT t22 fun t28 =>
  binT .geq t26 t28 fun t29 =>
  condT t29
  (nilT PR t0 fun t31 =>
  fadT 1 t31 fun t32 =>
  fadT 4 t32 fun t33 =>
  stT t33 (.int .i64 2) (w1.drew) fun w2 =>
  R (.tuple #[]) w2)
  (nilT PR t10 fun t36 =>
  fadT 1 t36 fun t37 =>
  ldT t37 (w1.drew) fun t38 =>
  ixaT 2 t22 t38 fun t39 =>
  ldsT 2 t39 (w1.drew) fun t40 =>
  allocT 221 #[(.int .i64 0), (.int .i64 0)] (w1.drew) fun t4 w3 =>
  stsT 2 t4 t40 w3 fun w4 =>
  nilT PR t0 fun t43 =>
  fadT 0 t43 fun t44 =>
  ldsT 1 t44 (w4.drew) fun t45 =>
  ldsT 2 t4 (w4.drew) fun t46 =>
  clT PR 198 [t45, t46] (w4.drew) fun t47 w5 =>
  extT t47 0 fun t48 =>
  extT t47 1 fun t49 =>
  nilT PR t10 fun t51 =>
  fadT 3 t51 fun t52 =>
  ldT t52 w5 fun t53 =>
  lenT t53 fun t54 =>
  binT .sub t54 t48 fun t56 =>
  binT .lss t56 (.int .i64 0) fun t58 =>
  condT t58
  (nilT PR t0 fun t66 =>
  fadT 1 t66 fun t67 =>
  fadT 4 t67 fun t68 =>
  stT t68 (.int .i64 2) w5 fun w6 =>
  R (.tuple #[]) w6)
  (binT .add t56 t49 fun t62 =>
  binT .gtr t62 (.int .i64 6) fun t63 =>
  condT t63
  (nilT PR t0 fun t66 =>
  fadT 1 t66 fun t67 =>
  fadT 4 t67 fun t68 =>
  stT t68 (.int .i64 2) w5 fun w7 =>
  R (.tuple #[]) w7)
  (bslT 127 0 2 #[] [] w5 fun t69 w8 =>
  nilT PR t10 fun t71 =>
  fadT 3 t71 fun t72 =>
  ldT t72 w8 fun t73 =>
  opT PR (Instr.sliceAt 35 t73 (some t56) none none) w8 fun t75 w9 =>
  opT PR (Builtin.append_ #[35, 35] 35 #[t69, t75]) w9 fun t76 w10 =>
  ldsT 2 t4 w10 fun t77 =>
  clT PR 199 [t77, t76] w10 fun t79 w11 =>
  notT t79 fun t80 =>
  condT t80
  (nilT PR t0 fun t82 =>
  fadT 1 t82 fun t83 =>
  fadT 4 t83 fun t84 =>
  stT t84 (.int .i64 2) w11 fun w12 =>
  R (.tuple #[]) w12)
  (bslT 127 0 2 #[] [] w11 fun t86 w13 =>
  nilT PR t10 fun t88 =>
  fadT 3 t88 fun t89 =>
  ldT t89 w13 fun t90 =>
  opT PR (Instr.sliceAt 35 t90 none (some t56) none) w13 fun t92 w14 =>
  opT PR (Builtin.append_ #[35, 35] 35 #[t86, t92]) w14 fun t93 w15 =>
  nilT PR t10 fun t94 =>
  fadT 3 t94 fun t95 =>
  stT t95 t93 w15 fun w16 =>
  nilT PR t10 fun t98 =>
  fadT 1 t98 fun t99 =>
  ldT t99 w16 fun t100 =>
  binT .add t100 (.int .i64 1) fun t101 =>
  nilT PR t10 fun t102 =>
  fadT 1 t102 fun t103 =>
  stT t103 t101 w16 fun w17 =>
  ldsT 2 t4 w17 fun t105 =>
  clT PR 200 [t0, t105, t76] w17 fun t107 w18 =>
  R (.tuple #[]) w18))))
def Fspec_l11Heap_step.H : Hints := {draw := fun i => match i with | 1 => { T := [0, 1, 3, 7, 15, 0, 32, 96, 224, 511, 1023, 2047, 4095] } | 5 => { T := [0, 1, 3, 7, 0, 31, 63, 127, 127, 255, 1023] } | _ => {}}
theorem Fspec_l11Heap_step.eq (t0 : Value) : trF PR CX Fspec_l11Heap_step.H Tryz.f136 [t0] = Fspec_l11Heap_step t0 := by kernel_rfl
theorem Fspec_l11Heap_step.cl {t0 : Value} {w : World} {R : VW} (h : Fspec_l11Heap_step t0 w R) : clT PR 136 [t0] w R := cl_of_tr (H := Fspec_l11Heap_step.H) ctxOk Tryz.func136 rfl (by rw [Fspec_l11Heap_step.eq]; exact h)
def Fspec_HeapNew (t0 : Value) (w : World) (R : VW) : Prop :=
  boxT 42 t0 w fun t1 w1 =>
  allocT 57 #[(.slice none 0 0), (.int .i64 0), (.int .i64 0), (.slice none 0 0), (.int .i64 0)] w1 fun t2 w2 =>
  ldsT 1 t1 w2 fun t4 =>
  clT PR 127 [t4] w2 fun t5 w3 =>
  notT t5 fun t6 =>
  condT t6
  (bldT #[(.slice none 0 0), (.int .i64 0), (.int .i64 0), (.slice none 0 0), (.int .i64 0)] [] fun t7 =>
  stsT 5 t2 t7 w3 fun w4 =>
  ldsT 5 t2 w4 fun r5 =>
  R (.tuple #[r5, (.bool false)]) w4)
  (ldsT 1 t1 w3 fun t8 =>
  bslT 127 0 2 #[] [] w3 fun t9 w6 =>
  clT PR 188 [t8, (.int .i64 0), t9, (.int .i64 (-1))] w6 fun t10 w7 =>
  bslT 89 1 6 #[(.int .i64 0), (.int .i64 0), (.slice none 0 0), (.slice none 0 0), (.int .i64 0), (.bool false)] [(0, 6, t10)] w7 fun t11 w8 =>
  bslT 127 0 2 #[] [] w8 fun t12 w9 =>
  bldT #[(.slice none 0 0), (.int .i64 0), (.int .i64 0), (.slice none 0 0), (.int .i64 0)] [(0, 1, t11), (2, 1, (.int .i64 1)), (3, 1, t12)] fun t13 =>
  stsT 5 t2 t13 w9 fun w10 =>
  ldsT 5 t2 w10 fun r11 =>
  R (.tuple #[r11, (.bool true)]) w10)
def Fspec_HeapNew.H : Hints := {}
theorem Fspec_HeapNew.eq (t0 : Value) : trF PR CX Fspec_HeapNew.H Tryz.f170 [t0] = Fspec_HeapNew t0 := by kernel_rfl
theorem Fspec_HeapNew.cl {t0 : Value} {w : World} {R : VW} (h : Fspec_HeapNew t0 w R) : clT PR 170 [t0] w R := cl_of_tr (H := Fspec_HeapNew.H) ctxOk Tryz.func170 rfl (by rw [Fspec_HeapNew.eq]; exact h)
def Fspec_l11Call (t0 t1 t2 t3 : Value) (w : World) (R : VW) : Prop :=
  boxT 42 t0 w fun t4 w1 =>
  allocT 89 #[(.int .i64 0), (.int .i64 0), (.slice none 0 0), (.slice none 0 0), (.int .i64 0), (.bool false)] w1 fun t8 w2 =>
  bslT 127 0 2 #[] [] w2 fun t10 w3 =>
  opT PR (Builtin.append_ #[35, 35] 35 #[t10, t2]) w3 fun t12 w4 =>
  fadT 0 t4 fun t15 =>
  ldT t15 w4 fun t16 =>
  ixaT 3 t16 t1 fun t18 =>
  fadT 1 t18 fun t19 =>
  ldT t19 w4 fun t20 =>
  lenT t2 fun t22 =>
  binT .sub t20 t22 fun t23 =>
  clT PR 230 [t23] w4 fun t24 w5 =>
  opT PR (Builtin.append_ #[35, 35] 35 #[t12, t24]) w5 fun t25 w6 =>
  bslT 127 0 2 #[] [] w6 fun t26 w7 =>
  bldT #[(.int .i64 0), (.int .i64 0), (.slice none 0 0), (.slice none 0 0), (.int .i64 0), (.bool false)] [(0, 1, t1), (2, 1, t25), (3, 1, t26), (4, 1, t3)] fun t28 =>
  stsT 6 t8 t28 w7 fun w8 =>
  ldsT 6 t8 w8 fun r9 =>
  R r9 w8
def Fspec_l11Call.H : Hints := {}
theorem Fspec_l11Call.eq (t0 t1 t2 t3 : Value) : trF PR CX Fspec_l11Call.H Tryz.f188 [t0, t1, t2, t3] = Fspec_l11Call t0 t1 t2 t3 := by kernel_rfl
theorem Fspec_l11Call.cl {t0 t1 t2 t3 : Value} {w : World} {R : VW} (h : Fspec_l11Call t0 t1 t2 t3 w R) : clT PR 188 [t0, t1, t2, t3] w R := cl_of_tr (H := Fspec_l11Call.H) ctxOk Tryz.func188 rfl (by rw [Fspec_l11Call.eq]; exact h)
def Fspec_l11Heap_now (t0 : Value) (w : World) (R : VW) : Prop :=
  nilT PR t0 fun t4 =>
  fadT 1 t4 fun t5 =>
  fadT 0 t5 fun t6 =>
  ldT t6 (w.drew) fun t7 =>
  nilT PR t0 fun t9 =>
  fadT 1 t9 fun t10 =>
  fadT 1 t10 fun t11 =>
  ldT t11 (w.drew) fun t12 =>
  ixaT 6 t7 t12 fun t13 =>
  R t13 (w.drew)
def Fspec_l11Heap_now.H : Hints := {draw := fun i => match i with | 1 => { T := [0, 1, 3, 7, 15, 0, 32, 96, 224, 480, 1023, 2047] } | _ => {}}
theorem Fspec_l11Heap_now.eq (t0 : Value) : trF PR CX Fspec_l11Heap_now.H Tryz.f197 [t0] = Fspec_l11Heap_now t0 := by kernel_rfl
theorem Fspec_l11Heap_now.cl {t0 : Value} {w : World} {R : VW} (h : Fspec_l11Heap_now t0 w R) : clT PR 197 [t0] w R := cl_of_tr (H := Fspec_l11Heap_now.H) ctxOk Tryz.func197 rfl (by rw [Fspec_l11Heap_now.eq]; exact h)
def Fspec_l11Kinds.j2 (x1 x21 : Value) (w : World) (R : VW) : Prop := ∀ _ : Env,
  R (.bool true) w
def Fspec_l11Kinds.j1 (x1 x21 : Value) (w : World) (R : VW) : Prop := ∀ _ : Env,
  condT x21
  (ixaT 2 x1 (.int .i64 0) fun t29 =>
  fadT 0 t29 fun t30 =>
  ldT t30 w fun t31 =>
  binT .eql t31 (.int .i64 2) fun t32 =>
  R t32 w)
  (Fspec_l11Kinds.j2 x1 x21 w R)
def Fspec_l11Kinds.j3 (x1 x21 : Value) (w : World) (R : VW) : Prop := ∀ _ : Env,
  Fspec_l11Kinds.j1 x1 x21 w R
def Fspec_l11Kinds.j4 (x1 x21 : Value) (w : World) (R : VW) : Prop := ∀ _ : Env,
  Fspec_l11Kinds.j3 x1 x21 w R
def Fspec_l11Kinds.j5 (x1 x21 : Value) (w : World) (R : VW) : Prop := ∀ _ : Env,
  Fspec_l11Kinds.j4 x1 x21 w R
def Fspec_l11Kinds.j6 (x1 x21 : Value) (w : World) (R : VW) : Prop := ∀ _ : Env,
  Fspec_l11Kinds.j5 x1 x21 w R
def Fspec_l11Kinds (t0 t1 : Value) (w : World) (R : VW) : Prop :=
  boxT 221 t0 w fun t2 w1 =>
  fadT 0 t2 fun t5 =>
  ldT t5 w1 fun t6 =>
  binT .eql t6 (.int .i64 5) fun t8 =>
  condT t8
  (ixaT 2 t1 (.int .i64 0) fun t10 =>
  fadT 0 t10 fun t11 =>
  ldT t11 w1 fun t12 =>
  binT .eql t12 (.int .i64 1) fun t13 =>
  condT t13
  (ixaT 2 t1 (.int .i64 1) fun t16 =>
  fadT 0 t16 fun t17 =>
  ldT t17 w1 fun t18 =>
  binT .eql t18 (.int .i64 1) fun t19 =>
  R t19 w1)
  (R (.bool false) w1))
  (binT .eql t6 (.int .i64 12) fun t22 =>
  condT t22
  (Fspec_l11Kinds.j1 t1 t22 w1 R)
  (binT .eql t6 (.int .i64 13) fun t23 =>
  condT t23
  (Fspec_l11Kinds.j3 t1 t23 w1 R)
  (binT .eql t6 (.int .i64 17) fun t24 =>
  condT t24
  (Fspec_l11Kinds.j4 t1 t24 w1 R)
  (binT .eql t6 (.int .i64 18) fun t25 =>
  condT t25
  (Fspec_l11Kinds.j5 t1 t25 w1 R)
  (binT .eql t6 (.int .i64 14) fun t26 =>
  condT t26
  (Fspec_l11Kinds.j6 t1 t26 w1 R)
  (binT .eql t6 (.int .i64 15) fun t27 =>
  Fspec_l11Kinds.j6 t1 t27 w1 R))))))
def Fspec_l11Kinds.H : Hints := {join := fun i => match i with | 21 => some [1, 21] | _ => none}
theorem Fspec_l11Kinds.eq (t0 t1 : Value) : trF PR CX Fspec_l11Kinds.H Tryz.f199 [t0, t1] = Fspec_l11Kinds t0 t1 := by kernel_rfl
theorem Fspec_l11Kinds.cl {t0 t1 : Value} {w : World} {R : VW} (h : Fspec_l11Kinds t0 t1 w R) : clT PR 199 [t0, t1] w R := cl_of_tr (H := Fspec_l11Kinds.H) ctxOk Tryz.func199 rfl (by rw [Fspec_l11Kinds.eq]; exact h)
def Fspec_l11Heap_do.j2 (x0 x2 x4 x6 x29 x118 : Value) (w : World) (R : VW) : Prop := ∀ _ : Env,
  R (.tuple #[]) w
def Fspec_l11Heap_do.j1 (x0 x2 x4 x6 x29 x118 : Value) (w : World) (R : VW) : Prop := ∀ _ : Env,
  condT x118
  (nilT PR x6 fun t125 =>
  fadT 3 t125 fun t126 =>
  ldT t126 (w.drew) fun t127 =>
  ldsT 2 x4 (w.drew) fun t129 =>
  ixaT 2 x2 (.int .i64 0) fun t131 =>
  fadT 1 t131 fun t132 =>
  ldT t132 (w.drew) fun t133 =>
  clT PR 237 [x0, t129, t133] (w.drew) fun t134 w23 =>
  (ldT t126 w23 fun u => u = t127) ∧
  bslT 127 1 2 #[(.int .i64 0), (.int .i64 0)] [(0, 2, t134)] w23 fun t135 w24 =>
  (ldT t126 w24 fun u => u = t127) ∧
  opT PR (Builtin.append_ #[35, 35] 35 #[t127, t135]) w24 fun t136 w25 =>
  nilT PR x6 fun t137 =>
  fadT 3 t137 fun t138 =>
  stT t138 t136 w25 fun w26 =>
  Fspec_l11Heap_do.j2 x0 x2 x4 x6 x29 x118 w26 R)
  (binT .eql x29 (.int .i64 14) fun t140 =>
  condT t140
  (fadT 1 x4 fun t141 =>
  ldT t141 (w.drew) fun t142 =>
  nilT PR x0 fun t144 =>
  fadT 1 t144 fun t145 =>
  fadT 0 t145 fun t146 =>
  ldT t146 (w.drew) fun t147 =>
  ixaT 2 x2 (.int .i64 0) fun t149 =>
  fadT 1 t149 fun t150 =>
  ldT t150 (w.drew) fun t151 =>
  ixaT 6 t147 t151 fun t152 =>
  fadT 2 t152 fun t153 =>
  ldT t153 (w.drew) fun t154 =>
  lenT t154 fun t155 =>
  binT .lss t142 t155 fun t156 =>
  condT t156
  (nilT PR x0 fun t158 =>
  fadT 1 t158 fun t159 =>
  fadT 0 t159 fun t160 =>
  ldT t160 ((w.drew).drew) fun t161 =>
  ixaT 2 x2 (.int .i64 0) fun t163 =>
  fadT 1 t163 fun t164 =>
  ldT t164 ((w.drew).drew) fun t165 =>
  ixaT 6 t161 t165 fun t166 =>
  fadT 2 t166 fun t167 =>
  ldT t167 ((w.drew).drew) fun t168 =>
  fadT 1 x4 fun t169 =>
  ldT t169 ((w.drew).drew) fun t170 =>
  ixaT 2 x2 (.int .i64 1) fun t172 =>
  ldsT 2 t172 ((w.drew).drew) fun t173 =>
  ixaT 2 t168 t170 fun t174 =>
  stsT 2 t174 t173 ((w.drew).drew) fun w27 =>
  Fspec_l11Heap_do.j2 x0 x2 x4 x6 x29 x118 w27 R)
  (Fspec_l11Heap_do.j2 x0 x2 x4 x6 x29 x118 (w.drew) R))
  (binT .eql x29 (.int .i64 15) fun t176 =>
  condT t176
  (ixaT 2 x2 (.int .i64 0) fun t179 =>
  fadT 1 t179 fun t180 =>
  ldT t180 (w.drew) fun t181 =>
  ixaT 2 x2 (.int .i64 1) fun t183 =>
  ldsT 2 t183 (w.drew) fun t184 =>
  clT PR 238 [x0, t181, t184] (w.drew) fun t185 w28 =>
  Fspec_l11Heap_do.j2 x0 x2 x4 x6 x29 x118 w28 R)
  (binT .eql x29 (.int .i64 16) fun t187 =>
  condT t187
  (ixaT 2 x2 (.int .i64 0) fun t190 =>
  ldsT 2 t190 w fun t191 =>
  clT PR 239 [x0, t191] w fun t192 w29 =>
  Fspec_l11Heap_do.j2 x0 x2 x4 x6 x29 x118 w29 R)
  (Fspec_l11Heap_do.j2 x0 x2 x4 x6 x29 x118 w R))))
def Fspec_l11Heap_do.j3 (x0 x2 x4 x6 x29 x118 : Value) (w : World) (R : VW) : Prop := ∀ _ : Env,
  Fspec_l11Heap_do.j1 x0 x2 x4 x6 x29 x118 w R
def Fspec_l11Heap_do.j4 (x0 x2 x4 x6 x29 x118 : Value) (w : World) (R : VW) : Prop := ∀ _ : Env,
  Fspec_l11Heap_do.j3 x0 x2 x4 x6 x29 x118 w R
def Fspec_l11Heap_do (t0 t1 t2 : Value) (w : World) (R : VW) : Prop :=
  boxT 221 t1 w fun t4 w1 =>
  clT PR 197 [t0] w1 fun t10 w2 =>
  ldsT 2 t4 w2 fun t12 =>
  clT PR 233 [t12, t2] w2 fun t14 w3 =>
  extT t14 0 fun t15 =>
  extT t14 1 fun t16 =>
  allocT 127 #[(.int .i64 0), (.int .i64 0)] w3 fun t7 w4 =>
  stsT 2 t7 t15 w4 fun w5 =>
  condT t16
  (nilT PR t10 fun t20 =>
  fadT 3 t20 fun t21 =>
  ldT t21 (w5.drew) fun t22 =>
  ldsT 2 t7 (w5.drew) fun t23 =>
  bslT 127 1 2 #[(.int .i64 0), (.int .i64 0)] [(0, 2, t23)] (w5.drew) fun t24 w6 =>
  (ldT t21 w6 fun u => u = t22) ∧
  opT PR (Builtin.append_ #[35, 35] 35 #[t22, t24]) w6 fun t25 w7 =>
  nilT PR t10 fun t26 =>
  fadT 3 t26 fun t27 =>
  stT t27 t25 w7 fun w8 =>
  R (.tuple #[]) w8)
  (fadT 0 t4 fun t28 =>
  ldT t28 w5 fun t29 =>
  binT .eql t29 (.int .i64 2) fun t31 =>
  condT t31
  (nilT PR t10 fun t34 =>
  fadT 3 t34 fun t35 =>
  ldT t35 (w5.drew) fun t36 =>
  nilT PR t10 fun t38 =>
  fadT 2 t38 fun t39 =>
  ldT t39 (w5.drew) fun t40 =>
  fadT 1 t4 fun t41 =>
  ldT t41 (w5.drew) fun t42 =>
  ixaT 2 t40 t42 fun t43 =>
  ldsT 2 t43 (w5.drew) fun t44 =>
  bslT 127 1 2 #[(.int .i64 0), (.int .i64 0)] [(0, 2, t44)] (w5.drew) fun t45 w9 =>
  (ldT t35 w9 fun u => u = t36) ∧
  opT PR (Builtin.append_ #[35, 35] 35 #[t36, t45]) w9 fun t46 w10 =>
  nilT PR t10 fun t47 =>
  fadT 3 t47 fun t48 =>
  stT t48 t46 w10 fun w11 =>
  R (.tuple #[]) w11)
  (binT .eql t29 (.int .i64 3) fun t50 =>
  condT t50
  (nilT PR t10 fun t52 =>
  fadT 2 t52 fun t53 =>
  ldT t53 (w5.drew) fun t54 =>
  fadT 1 t4 fun t55 =>
  ldT t55 (w5.drew) fun t56 =>
  ixaT 2 t2 (.int .i64 0) fun t58 =>
  ldsT 2 t58 (w5.drew) fun t59 =>
  ixaT 2 t54 t56 fun t60 =>
  stsT 2 t60 t59 (w5.drew) fun w12 =>
  R (.tuple #[]) w12)
  (binT .eql t29 (.int .i64 7) fun t62 =>
  condT t62
  (fadT 1 t4 fun t64 =>
  ldT t64 w5 fun t65 =>
  nilT PR t10 fun t66 =>
  fadT 1 t66 fun t67 =>
  stT t67 t65 w5 fun w13 =>
  R (.tuple #[]) w13)
  (binT .eql t29 (.int .i64 8) fun t69 =>
  condT t69
  (ixaT 2 t2 (.int .i64 0) fun t71 =>
  fadT 0 t71 fun t72 =>
  ldT t72 (w5.drew) fun t73 =>
  binT .eql t73 (.int .i64 0) fun t74 =>
  condT t74
  (fadT 1 t4 fun t83 =>
  ldT t83 (w5.drew) fun t84 =>
  nilT PR t10 fun t85 =>
  fadT 1 t85 fun t86 =>
  stT t86 t84 (w5.drew) fun w14 =>
  R (.tuple #[]) w14)
  (ixaT 2 t2 (.int .i64 0) fun t77 =>
  ldsT 2 t77 (w5.drew) fun t78 =>
  clT PR 234 [(.int .i64 0)] (w5.drew) fun t79 w15 =>
  (ldsT 2 t77 w15 fun u => u = t78) ∧
  opT PR (do eqGuard .eql 127 (.tmp 78) (.tmp 79) t78 t79; binOp .eql 127 t78 t79) w15 fun t80 w16 =>
  condT t80
  (fadT 1 t4 fun t83 =>
  ldT t83 w16 fun t84 =>
  nilT PR t10 fun t85 =>
  fadT 1 t85 fun t86 =>
  stT t86 t84 w16 fun w17 =>
  R (.tuple #[]) w17)
  (R (.tuple #[]) w16)))
  (binT .eql t29 (.int .i64 9) fun t88 =>
  condT t88
  (fadT 1 t4 fun t90 =>
  ldT t90 w5 fun t91 =>
  clT PR 235 [t0, t91, t2] w5 fun t93 w18 =>
  R (.tuple #[]) w18)
  (binT .eql t29 (.int .i64 10) fun t95 =>
  condT t95
  (ixaT 2 t2 (.int .i64 0) fun t98 =>
  ldsT 2 t98 w5 fun t99 =>
  clT PR 236 [t0, t99] w5 fun t100 w19 =>
  R (.tuple #[]) w19)
  (binT .eql t29 (.int .i64 11) fun t102 =>
  condT t102
  (nilT PR t10 fun t105 =>
  fadT 3 t105 fun t106 =>
  ldT t106 (w5.drew) fun t107 =>
  nilT PR t0 fun t109 =>
  fadT 1 t109 fun t110 =>
  fadT 1 t110 fun t111 =>
  ldT t111 (w5.drew) fun t112 =>
  bldT #[(.int .i64 0), (.int .i64 0)] [(0, 1, (.int .i64 2)), (1, 1, t112)] fun t113 =>
  bslT 127 1 2 #[(.int .i64 0), (.int .i64 0)] [(0, 2, t113)] (w5.drew) fun t114 w20 =>
  (ldT t106 w20 fun u => u = t107) ∧
  opT PR (Builtin.append_ #[35, 35] 35 #[t107, t114]) w20 fun t115 w21 =>
  nilT PR t10 fun t116 =>
  fadT 3 t116 fun t117 =>
  stT t117 t115 w21 fun w22 =>
  R (.tuple #[]) w22)
  (binT .eql t29 (.int .i64 12) fun t119 =>
  condT t119
  (Fspec_l11Heap_do.j1 t0 t2 t4 t10 t29 t119 w5 R)
  (binT .eql t29 (.int .i64 13) fun t120 =>
  condT t120
  (Fspec_l11Heap_do.j3 t0 t2 t4 t10 t29 t120 w5 R)
  (binT .eql t29 (.int .i64 17) fun t121 =>
  condT t121
  (Fspec_l11Heap_do.j4 t0 t2 t4 t10 t29 t121 w5 R)
  (binT .eql t29 (.int .i64 18) fun t122 =>
  Fspec_l11Heap_do.j4 t0 t2 t4 t10 t29 t122 w5 R)))))))))))
def Fspec_l11Heap_do.H : Hints := {draw := fun i => match i with | 4 => { T := [0, 0, 2, 6, 14, 0, 32, 126, 255, 511, 1023] } | 7 => { T := [0, 0, 2, 6, 14, 0, 32, 96, 224, 0, 512, 2016, 4064, 8160, 16382, 32767, 65535, 131071] } | 9 => { T := [0, 1, 3, 7, 0, 16, 0, 64, 192, 511, 1023] } | 13 => { T := [0, 1, 3, 7, 15, 31, 63, 127, 255, 63, 1023, 2047] } | 20 => { T := [0, 0, 2, 6, 14, 0, 32, 96, 224, 480, 992, 2016, 4094, 8191, 16383, 32767] } | 25 => { T := [0, 0, 2, 6, 14, 0, 0, 0, 128, 384, 896, 2016, 4064, 8190, 16383, 32767, 65535] } | 27 => { T := [0, 1, 0, 4, 12, 28, 60, 0, 128, 384, 896, 2044, 4092, 8188, 16380, 32767] } | 28 => { T := [0, 1, 3, 7, 15, 0, 32, 96, 224, 511, 1023, 2047, 0, 4096, 0, 16384, 49152, 131071, 262143] } | 30 => { T := [0, 0, 2, 6, 14, 0, 32, 96, 255] } | _ => {}, join := fun i => match i with | 118 => some [0, 2, 4, 6, 29, 118] | _ => none}
theorem Fspec_l11Heap_do.eq (t0 t1 t2 : Value) : trF PR CX Fspec_l11Heap_do.H Tryz.f200 [t0, t1, t2] = Fspec_l11Heap_do t0 t1 t2 := by kernel_rfl
theorem Fspec_l11Heap_do.cl {t0 t1 t2 : Value} {w : World} {R : VW} (h : Fspec_l11Heap_do t0 t1 t2 w R) : clT PR 200 [t0, t1, t2] w R := cl_of_tr (H := Fspec_l11Heap_do.H) ctxOk Tryz.func200 rfl (by rw [Fspec_l11Heap_do.eq]; exact h)
def Fspec_l11None.l1 (x0 x2 x3 x4 : Value) (w : World) (Kn Kb Kr : LW) : Prop := ∀ _ : Env,
  binT .lss x4 x0 fun t8 =>
  condT t8
  (bldT #[(.int .i64 0), (.int .i64 0)] [] fun t12 =>
  bslT 127 1 2 #[(.int .i64 0), (.int .i64 0)] [(0, 2, t12)] w fun t13 w2 =>
  opT PR (Builtin.append_ #[35, 35] 35 #[x3, t13]) w2 fun t14 w3 =>
  binT .add x4 (.int .i64 1) fun t10 =>
  Kn [x0, x2, t14, t10] w3)
  (Kb [x0, x2, x3, x4] w)
def Fspec_l11None.k2 (x0 x2 x3 x4 : Value) (w : World) (R : VW) : Prop := ∀ _ : Env,
  R x3 w
def Fspec_l11None.r3 (x0 x2 x3 x4 : Value) (w : World) (R : VW) : Prop := ∀ _ : Env,
  R x2 w
def Fspec_l11None (t0 : Value) (w : World) (R : VW) : Prop :=
  bslT 127 0 2 #[] [] w fun t5 w1 =>
  loopT (fun s w Kn Kb Kr => Fspec_l11None.l1 (s.headD undef) (s.tail.headD undef) (s.tail.tail.headD undef) (s.tail.tail.tail.headD undef) w Kn Kb Kr) [t0, (.slice none 0 0), t5, (.int .i64 0)] w1
  (fun s w => Fspec_l11None.k2 (s.headD undef) (s.tail.headD undef) (s.tail.tail.headD undef) (s.tail.tail.tail.headD undef) w R)
  (fun s w => Fspec_l11None.r3 (s.headD undef) (s.tail.headD undef) (s.tail.tail.headD undef) (s.tail.tail.tail.headD undef) w R)
def Fspec_l11None.H : Hints := {loop := fun i => match i with | 3 => some (0, [0, 2, 3, 4]) | _ => none}
theorem Fspec_l11None.eq (t0 : Value) : trF PR CX Fspec_l11None.H Tryz.f230 [t0] = Fspec_l11None t0 := by kernel_rfl
theorem Fspec_l11None.cl {t0 : Value} {w : World} {R : VW} (h : Fspec_l11None t0 w R) : clT PR 230 [t0] w R := cl_of_tr (H := Fspec_l11None.H) ctxOk Tryz.func230 rfl (by rw [Fspec_l11None.eq]; exact h)
def Fspec_l11Made (t0 t1 : Value) (w : World) (R : VW) : Prop :=
  boxT 221 t0 w fun t2 w1 =>
  allocT 127 #[(.int .i64 0), (.int .i64 0)] w1 fun t4 w2 =>
  fadT 0 t2 fun t6 =>
  ldT t6 w2 fun t7 =>
  binT .eql t7 (.int .i64 1) fun t9 =>
  condT t9
  (fadT 1 t2 fun t10 =>
  ldT t10 w2 fun t11 =>
  clT PR 234 [t11] w2 fun t12 w3 =>
  stsT 2 t4 t12 w3 fun w4 =>
  ldsT 2 t4 w4 fun r5 =>
  R (.tuple #[r5, (.bool true)]) w4)
  (binT .eql t7 (.int .i64 5) fun t14 =>
  condT t14
  (ixaT 2 t1 (.int .i64 0) fun t16 =>
  fadT 1 t16 fun t17 =>
  ldT t17 (w2.drew) fun t18 =>
  ixaT 2 t1 (.int .i64 1) fun t20 =>
  fadT 1 t20 fun t21 =>
  ldT t21 (w2.drew) fun t22 =>
  binT .add t18 t22 fun t23 =>
  binT .rem t23 (.int .i64 1000) fun t24 =>
  clT PR 234 [t24] (w2.drew) fun t25 w6 =>
  stsT 2 t4 t25 w6 fun w7 =>
  ldsT 2 t4 w7 fun r8 =>
  R (.tuple #[r8, (.bool true)]) w7)
  (binT .eql t7 (.int .i64 6) fun t27 =>
  condT t27
  (ixaT 2 t1 (.int .i64 0) fun t29 =>
  ldsT 2 t29 (w2.drew) fun t30 =>
  ixaT 2 t1 (.int .i64 1) fun t32 =>
  ldsT 2 t32 (w2.drew) fun t33 =>
  opT PR (do eqGuard .eql 127 (.tmp 30) (.tmp 33) t30 t33; binOp .eql 127 t30 t33) (w2.drew) fun t34 w9 =>
  clT PR 258 [t34] w9 fun t35 w10 =>
  stsT 2 t4 t35 w10 fun w11 =>
  ldsT 2 t4 w11 fun r12 =>
  R (.tuple #[r12, (.bool true)]) w11)
  (bldT #[(.int .i64 0), (.int .i64 0)] [] fun t36 =>
  stsT 2 t4 t36 w2 fun w13 =>
  ldsT 2 t4 w13 fun r14 =>
  R (.tuple #[r14, (.bool false)]) w13)))
def Fspec_l11Made.H : Hints := {draw := fun i => match i with | 5 => { T := [0, 1, 3, 7, 0, 16, 48, 112, 255, 511, 1023, 2047, 4095] } | 7 => { T := [0, 1, 3, 0, 8, 24, 63, 127, 255, 511] } | _ => {}}
theorem Fspec_l11Made.eq (t0 t1 : Value) : trF PR CX Fspec_l11Made.H Tryz.f233 [t0, t1] = Fspec_l11Made t0 t1 := by kernel_rfl
theorem Fspec_l11Made.cl {t0 t1 : Value} {w : World} {R : VW} (h : Fspec_l11Made t0 t1 w R) : clT PR 233 [t0, t1] w R := cl_of_tr (H := Fspec_l11Made.H) ctxOk Tryz.func233 rfl (by rw [Fspec_l11Made.eq]; exact h)
def Fspec_l11Num (t0 : Value) (w : World) (R : VW) : Prop :=
  allocT 127 #[(.int .i64 0), (.int .i64 0)] w fun t2 w1 =>
  bldT #[(.int .i64 0), (.int .i64 0)] [(0, 1, (.int .i64 1)), (1, 1, t0)] fun t4 =>
  stsT 2 t2 t4 w1 fun w2 =>
  ldsT 2 t2 w2 fun r3 =>
  R r3 w2
def Fspec_l11Num.H : Hints := {}
theorem Fspec_l11Num.eq (t0 : Value) : trF PR CX Fspec_l11Num.H Tryz.f234 [t0] = Fspec_l11Num t0 := by kernel_rfl
theorem Fspec_l11Num.cl {t0 : Value} {w : World} {R : VW} (h : Fspec_l11Num t0 w R) : clT PR 234 [t0] w R := cl_of_tr (H := Fspec_l11Num.H) ctxOk Tryz.func234 rfl (by rw [Fspec_l11Num.eq]; exact h)
def Fspec_l11Heap_call (t0 t1 t2 : Value) (w : World) (R : VW) : Prop :=
  nilT PR t0 fun t7 =>
  fadT 1 t7 fun t8 =>
  fadT 2 t8 fun t9 =>
  ldT t9 w fun t10 =>
  binT .geq t10 (.int .i64 30) fun t11 =>
  condT t11
  (nilT PR t0 fun t13 =>
  fadT 1 t13 fun t14 =>
  fadT 4 t14 fun t15 =>
  stT t15 (.int .i64 3) w fun w1 =>
  R (.tuple #[]) w1)
  (nilT PR t0 fun t18 =>
  fadT 1 t18 fun t19 =>
  fadT 0 t19 fun t20 =>
  ldT t20 (w.drew) fun t21 =>
  nilT PR t0 fun t23 =>
  fadT 0 t23 fun t24 =>
  ldsT 1 t24 (w.drew) fun t25 =>
  nilT PR t0 fun t29 =>
  fadT 1 t29 fun t30 =>
  fadT 1 t30 fun t31 =>
  ldT t31 (w.drew) fun t32 =>
  clT PR 188 [t25, t1, t2, t32] (w.drew) fun t33 w2 =>
  (ldT t20 w2 fun u => u = t21) ∧
  bslT 89 1 6 #[(.int .i64 0), (.int .i64 0), (.slice none 0 0), (.slice none 0 0), (.int .i64 0), (.bool false)] [(0, 6, t33)] w2 fun t34 w3 =>
  (ldT t20 w3 fun u => u = t21) ∧
  opT PR (Builtin.append_ #[55, 55] 55 #[t21, t34]) w3 fun t35 w4 =>
  nilT PR t0 fun t36 =>
  fadT 1 t36 fun t37 =>
  fadT 0 t37 fun t38 =>
  stT t38 t35 w4 fun w5 =>
  nilT PR t0 fun t41 =>
  fadT 1 t41 fun t42 =>
  fadT 2 t42 fun t43 =>
  ldT t43 w5 fun t44 =>
  binT .add t44 (.int .i64 1) fun t45 =>
  nilT PR t0 fun t46 =>
  fadT 1 t46 fun t47 =>
  fadT 2 t47 fun t48 =>
  stT t48 t45 w5 fun w6 =>
  nilT PR t0 fun t51 =>
  fadT 1 t51 fun t52 =>
  fadT 0 t52 fun t53 =>
  ldT t53 w6 fun t54 =>
  lenT t54 fun t55 =>
  binT .sub t55 (.int .i64 1) fun t56 =>
  nilT PR t0 fun t57 =>
  fadT 1 t57 fun t58 =>
  fadT 1 t58 fun t59 =>
  stT t59 t56 w6 fun w7 =>
  R (.tuple #[]) w7)
def Fspec_l11Heap_call.H : Hints := {draw := fun i => match i with | 2 => { T := [0, 0, 2, 6, 14, 30, 0, 64, 192, 448, 0, 0, 0, 4096, 12288, 28672, 61440, 131008, 262080, 524286, 1048575, 2097151, 4194303, 8388607] } | _ => {}}
theorem Fspec_l11Heap_call.eq (t0 t1 t2 : Value) : trF PR CX Fspec_l11Heap_call.H Tryz.f235 [t0, t1, t2] = Fspec_l11Heap_call t0 t1 t2 := by kernel_rfl
theorem Fspec_l11Heap_call.cl {t0 t1 t2 : Value} {w : World} {R : VW} (h : Fspec_l11Heap_call t0 t1 t2 w R) : clT PR 235 [t0, t1, t2] w R := cl_of_tr (H := Fspec_l11Heap_call.H) ctxOk Tryz.func235 rfl (by rw [Fspec_l11Heap_call.eq]; exact h)
def Fspec_l11Heap_ret (t0 t1 : Value) (w : World) (R : VW) : Prop :=
  boxT 127 t1 w fun t3 w1 =>
  clT PR 197 [t0] w1 fun t6 w2 =>
  nilT PR t6 fun t7 =>
  fadT 4 t7 fun t8 =>
  ldT t8 w2 fun t9 =>
  nilT PR t0 fun t12 =>
  fadT 1 t12 fun t13 =>
  fadT 1 t13 fun t14 =>
  ldT t14 w2 fun t15 =>
  clT PR 259 [t0, t15] w2 fun t16 w3 =>
  nilT PR t0 fun t19 =>
  fadT 1 t19 fun t20 =>
  fadT 1 t20 fun t21 =>
  stT t21 t9 w3 fun w4 =>
  binT .lss t9 (.int .i64 0) fun t23 =>
  condT t23
  (ldsT 2 t3 w4 fun t25 =>
  clT PR 239 [t0, t25] w4 fun t26 w5 =>
  nilT PR t0 fun t28 =>
  fadT 1 t28 fun t29 =>
  fadT 4 t29 fun t30 =>
  stT t30 (.int .i64 1) w5 fun w6 =>
  R (.tuple #[]) w6)
  (ldsT 2 t3 (w4.drew) fun t38 =>
  (clT PR 197 [t0] (w4.drew) fun t32 w7 =>
  (ldsT 2 t3 w7 fun u => u = t38) ∧
  (clT PR 197 [t0] w7 fun t34 w8 =>
  (ldsT 2 t3 w8 fun u => u = t38) ∧
  nilT PR t34 fun t35 =>
  fadT 3 t35 fun t36 =>
  ldT t36 w8 fun t37 =>
  bslT 127 1 2 #[(.int .i64 0), (.int .i64 0)] [(0, 2, t38)] w8 fun t39 w9 =>
  (ldT t36 w9 fun u => u = t37) ∧
  opT PR (Builtin.append_ #[35, 35] 35 #[t37, t39]) w9 fun t40 w10 =>
  nilT PR t32 fun t41 =>
  fadT 3 t41 fun t42 =>
  stT t42 t40 w10 fun w11 =>
  R (.tuple #[]) w11) ∧
  (bslT 127 1 2 #[(.int .i64 0), (.int .i64 0)] [(0, 2, t38)] w7 fun t39 w12 =>
  clT PR 197 [t0] w12 fun t34 w13 =>
  (ldsT 2 t3 w13 fun u => u = t38) ∧
  nilT PR t34 fun t35 =>
  fadT 3 t35 fun t36 =>
  ldT t36 w13 fun t37 =>
  opT PR (Builtin.append_ #[35, 35] 35 #[t37, t39]) w13 fun t40 w14 =>
  nilT PR t32 fun t41 =>
  fadT 3 t41 fun t42 =>
  stT t42 t40 w14 fun w15 =>
  R (.tuple #[]) w15)) ∧
  (bslT 127 1 2 #[(.int .i64 0), (.int .i64 0)] [(0, 2, t38)] (w4.drew) fun t39 w16 =>
  clT PR 197 [t0] w16 fun t32 w17 =>
  (ldsT 2 t3 w17 fun u => u = t38) ∧
  clT PR 197 [t0] w17 fun t34 w18 =>
  (ldsT 2 t3 w18 fun u => u = t38) ∧
  nilT PR t34 fun t35 =>
  fadT 3 t35 fun t36 =>
  ldT t36 w18 fun t37 =>
  opT PR (Builtin.append_ #[35, 35] 35 #[t37, t39]) w18 fun t40 w19 =>
  nilT PR t32 fun t41 =>
  fadT 3 t41 fun t42 =>
  stT t42 t40 w19 fun w20 =>
  R (.tuple #[]) w20))
def Fspec_l11Heap_ret.H : Hints := {draw := fun i => match i with | 7 => { T := [0, 1, 0, 7, 15, 31, 63, 0, 128, 511, 1023, 2047, 4095] } | _ => {}}
theorem Fspec_l11Heap_ret.eq (t0 t1 : Value) : trF PR CX Fspec_l11Heap_ret.H Tryz.f236 [t0, t1] = Fspec_l11Heap_ret t0 t1 := by kernel_rfl
theorem Fspec_l11Heap_ret.cl {t0 t1 : Value} {w : World} {R : VW} (h : Fspec_l11Heap_ret t0 t1 w R) : clT PR 236 [t0, t1] w R := cl_of_tr (H := Fspec_l11Heap_ret.H) ctxOk Tryz.func236 rfl (by rw [Fspec_l11Heap_ret.eq]; exact h)
def Fspec_l11Heap_look (t0 t1 t2 : Value) (w : World) (R : VW) : Prop :=
  boxT 221 t1 w fun t4 w1 =>
  allocT 127 #[(.int .i64 0), (.int .i64 0)] w1 fun t6 w2 =>
  nilT PR t0 fun t9 =>
  fadT 1 t9 fun t10 =>
  fadT 0 t10 fun t11 =>
  ldT t11 w2 fun t12 =>
  ixaT 6 t12 t2 fun t14 =>
  ldsT 6 t14 w2 fun t15 =>
  allocT 89 #[(.int .i64 0), (.int .i64 0), (.slice none 0 0), (.slice none 0 0), (.int .i64 0), (.bool false)] w2 fun t7 w3 =>
  stsT 6 t7 t15 w3 fun w4 =>
  fadT 0 t4 fun t16 =>
  ldT t16 w4 fun t17 =>
  binT .eql t17 (.int .i64 12) fun t19 =>
  condT t19
  (fadT 4 t7 fun t20 =>
  ldT t20 w4 fun t21 =>
  binT .geq t21 (.int .i64 0) fun t22 =>
  condT t22
  (fadT 4 t7 fun t23 =>
  ldT t23 w4 fun t24 =>
  bldT #[(.int .i64 0), (.int .i64 0)] [(0, 1, (.int .i64 2)), (1, 1, t24)] fun t25 =>
  stsT 2 t6 t25 w4 fun w5 =>
  ldsT 2 t6 w5 fun r6 =>
  R r6 w5)
  (bldT #[(.int .i64 0), (.int .i64 0)] [] fun t50 =>
  stsT 2 t6 t50 w4 fun w7 =>
  ldsT 2 t6 w7 fun r8 =>
  R r8 w7))
  (binT .eql t17 (.int .i64 13) fun t27 =>
  condT t27
  (fadT 1 t4 fun t28 =>
  ldT t28 w4 fun t29 =>
  fadT 2 t7 fun t30 =>
  ldT t30 w4 fun t31 =>
  lenT t31 fun t32 =>
  binT .lss t29 t32 fun t33 =>
  condT t33
  (fadT 2 t7 fun t34 =>
  ldT t34 w4 fun t35 =>
  fadT 1 t4 fun t36 =>
  ldT t36 w4 fun t37 =>
  ixaT 2 t35 t37 fun t38 =>
  ldsT 2 t38 w4 fun t39 =>
  stsT 2 t6 t39 w4 fun w9 =>
  ldsT 2 t6 w9 fun r10 =>
  R r10 w9)
  (bldT #[(.int .i64 0), (.int .i64 0)] [] fun t50 =>
  stsT 2 t6 t50 w4 fun w11 =>
  ldsT 2 t6 w11 fun r12 =>
  R r12 w11))
  (binT .eql t17 (.int .i64 17) fun t41 =>
  condT t41
  (fadT 5 t7 fun t42 =>
  ldT t42 w4 fun t43 =>
  clT PR 258 [t43] w4 fun t44 w13 =>
  stsT 2 t6 t44 w13 fun w14 =>
  ldsT 2 t6 w14 fun r15 =>
  R r15 w14)
  (binT .eql t17 (.int .i64 18) fun t46 =>
  condT t46
  (fadT 1 t7 fun t47 =>
  ldT t47 w4 fun t48 =>
  clT PR 234 [t48] w4 fun t49 w16 =>
  stsT 2 t6 t49 w16 fun w17 =>
  ldsT 2 t6 w17 fun r18 =>
  R r18 w17)
  (bldT #[(.int .i64 0), (.int .i64 0)] [] fun t50 =>
  stsT 2 t6 t50 w4 fun w19 =>
  ldsT 2 t6 w19 fun r20 =>
  R r20 w19))))
def Fspec_l11Heap_look.H : Hints := {}
theorem Fspec_l11Heap_look.eq (t0 t1 t2 : Value) : trF PR CX Fspec_l11Heap_look.H Tryz.f237 [t0, t1, t2] = Fspec_l11Heap_look t0 t1 t2 := by kernel_rfl
theorem Fspec_l11Heap_look.cl {t0 t1 t2 : Value} {w : World} {R : VW} (h : Fspec_l11Heap_look t0 t1 t2 w R) : clT PR 237 [t0, t1, t2] w R := cl_of_tr (H := Fspec_l11Heap_look.H) ctxOk Tryz.func237 rfl (by rw [Fspec_l11Heap_look.eq]; exact h)
def Fspec_l11Heap_back.l1 (x0 x1 x5 : Value) (w : World) (Kn Kb Kr : LW) : Prop := ∀ _ : Env,
  nilT PR x0 fun t21 =>
  fadT 1 t21 fun t22 =>
  fadT 1 t22 fun t23 =>
  ldT t23 w fun t24 =>
  binT .neq t24 x1 fun t26 =>
  condT t26
  (nilT PR x0 fun t28 =>
  fadT 1 t28 fun t29 =>
  fadT 1 t29 fun t30 =>
  ldT t30 w fun t31 =>
  clT PR 197 [x0] w fun t34 w3 =>
  nilT PR t34 fun t35 =>
  fadT 4 t35 fun t36 =>
  ldT t36 w3 fun t37 =>
  nilT PR x0 fun t38 =>
  fadT 1 t38 fun t39 =>
  fadT 1 t39 fun t40 =>
  stT t40 t37 w3 fun w4 =>
  clT PR 259 [x0, t31] w4 fun t43 w5 =>
  Kn [x0, x1, x5] w5)
  (Kb [x0, x1, x5] w)
def Fspec_l11Heap_back.k2 (x0 x1 x5 : Value) (w : World) (R : VW) : Prop := ∀ _ : Env,
  ldsT 2 x5 (w.drew) fun t51 =>
  (clT PR 197 [x0] (w.drew) fun t45 w6 =>
  (ldsT 2 x5 w6 fun u => u = t51) ∧
  (clT PR 197 [x0] w6 fun t47 w7 =>
  (ldsT 2 x5 w7 fun u => u = t51) ∧
  nilT PR t47 fun t48 =>
  fadT 3 t48 fun t49 =>
  ldT t49 w7 fun t50 =>
  bslT 127 1 2 #[(.int .i64 0), (.int .i64 0)] [(0, 2, t51)] w7 fun t52 w8 =>
  (ldT t49 w8 fun u => u = t50) ∧
  opT PR (Builtin.append_ #[35, 35] 35 #[t50, t52]) w8 fun t53 w9 =>
  nilT PR t45 fun t54 =>
  fadT 3 t54 fun t55 =>
  stT t55 t53 w9 fun w10 =>
  R (.tuple #[]) w10) ∧
  (bslT 127 1 2 #[(.int .i64 0), (.int .i64 0)] [(0, 2, t51)] w6 fun t52 w11 =>
  clT PR 197 [x0] w11 fun t47 w12 =>
  (ldsT 2 x5 w12 fun u => u = t51) ∧
  nilT PR t47 fun t48 =>
  fadT 3 t48 fun t49 =>
  ldT t49 w12 fun t50 =>
  opT PR (Builtin.append_ #[35, 35] 35 #[t50, t52]) w12 fun t53 w13 =>
  nilT PR t45 fun t54 =>
  fadT 3 t54 fun t55 =>
  stT t55 t53 w13 fun w14 =>
  R (.tuple #[]) w14)) ∧
  (bslT 127 1 2 #[(.int .i64 0), (.int .i64 0)] [(0, 2, t51)] (w.drew) fun t52 w15 =>
  clT PR 197 [x0] w15 fun t45 w16 =>
  (ldsT 2 x5 w16 fun u => u = t51) ∧
  clT PR 197 [x0] w16 fun t47 w17 =>
  (ldsT 2 x5 w17 fun u => u = t51) ∧
  nilT PR t47 fun t48 =>
  fadT 3 t48 fun t49 =>
  ldT t49 w17 fun t50 =>
  opT PR (Builtin.append_ #[35, 35] 35 #[t50, t52]) w17 fun t53 w18 =>
  nilT PR t45 fun t54 =>
  fadT 3 t54 fun t55 =>
  stT t55 t53 w18 fun w19 =>
  R (.tuple #[]) w19)
def Fspec_l11Heap_back.r3 (x0 x1 x5 : Value) (w : World) (R : VW) : Prop := ∀ _ : Env,
  R (.tuple #[]) w
def Fspec_l11Heap_back (t0 t1 t2 : Value) (w : World) (R : VW) : Prop :=
  boxT 127 t2 w fun t5 w1 =>
  nilT PR t0 fun t8 =>
  fadT 1 t8 fun t9 =>
  fadT 0 t9 fun t10 =>
  ldT t10 w1 fun t11 =>
  ixaT 6 t11 t1 fun t13 =>
  fadT 5 t13 fun t14 =>
  ldT t14 w1 fun t15 =>
  condT t15
  (nilT PR t0 fun t17 =>
  fadT 1 t17 fun t18 =>
  fadT 4 t18 fun t19 =>
  stT t19 (.int .i64 2) w1 fun w2 =>
  R (.tuple #[]) w2)
  (loopT (fun s w Kn Kb Kr => Fspec_l11Heap_back.l1 (s.headD undef) (s.tail.headD undef) (s.tail.tail.headD undef) w Kn Kb Kr) [t0, t1, t5] w1
  (fun s w => Fspec_l11Heap_back.k2 (s.headD undef) (s.tail.headD undef) (s.tail.tail.headD undef) w R)
  (fun s w => Fspec_l11Heap_back.r3 (s.headD undef) (s.tail.headD undef) (s.tail.tail.headD undef) w R))
def Fspec_l11Heap_back.H : Hints := {draw := fun i => match i with | 7 => { T := [0, 1, 0, 7, 15, 31, 63, 0, 128, 511, 1023, 2047, 4095] } | _ => {}, loop := fun i => match i with | 3 => some (0, [0, 1, 5]) | _ => none}
theorem Fspec_l11Heap_back.eq (t0 t1 t2 : Value) : trF PR CX Fspec_l11Heap_back.H Tryz.f238 [t0, t1, t2] = Fspec_l11Heap_back t0 t1 t2 := by kernel_rfl
theorem Fspec_l11Heap_back.cl {t0 t1 t2 : Value} {w : World} {R : VW} (h : Fspec_l11Heap_back t0 t1 t2 w R) : clT PR 238 [t0, t1, t2] w R := cl_of_tr (H := Fspec_l11Heap_back.H) ctxOk Tryz.func238 rfl (by rw [Fspec_l11Heap_back.eq]; exact h)
def Fspec_l11Heap_say.j1 (x0 x3 : Value) (w : World) (R : VW) : Prop := ∀ _ : Env,
  nilT PR x0 fun t20 =>
  fadT 1 t20 fun t21 =>
  fadT 3 t21 fun t22 =>
  ldT t22 (w.drew) fun t23 =>
  ldsT 2 x3 (w.drew) fun t24 =>
  bslT 127 1 2 #[(.int .i64 0), (.int .i64 0)] [(0, 2, t24)] (w.drew) fun t25 w3 =>
  (ldT t22 w3 fun u => u = t23) ∧
  opT PR (Builtin.append_ #[35, 35] 35 #[t23, t25]) w3 fun t26 w4 =>
  nilT PR x0 fun t27 =>
  fadT 1 t27 fun t28 =>
  fadT 3 t28 fun t29 =>
  stT t29 t26 w4 fun w5 =>
  R (.tuple #[]) w5
def Fspec_l11Heap_say (t0 t1 : Value) (w : World) (R : VW) : Prop :=
  boxT 127 t1 w fun t3 w1 =>
  fadT 0 t3 fun t4 =>
  ldT t4 w1 fun t5 =>
  binT .eql t5 (.int .i64 2) fun t6 =>
  condT t6
  (nilT PR t0 fun t8 =>
  fadT 1 t8 fun t9 =>
  fadT 0 t9 fun t10 =>
  ldT t10 (w1.drew) fun t11 =>
  fadT 1 t3 fun t12 =>
  ldT t12 (w1.drew) fun t13 =>
  ixaT 6 t11 t13 fun t14 =>
  fadT 0 t14 fun t15 =>
  ldT t15 (w1.drew) fun t16 =>
  fadT 1 t3 fun t17 =>
  stT t17 t16 (w1.drew) fun w2 =>
  Fspec_l11Heap_say.j1 t0 t3 w2 R)
  (Fspec_l11Heap_say.j1 t0 t3 w1 R)
def Fspec_l11Heap_say.H : Hints := {draw := fun i => match i with | 2 => { T := [0, 1, 3, 7, 15, 0, 32, 127, 255, 511, 1023, 2047] } | 3 => { T := [0, 0, 2, 6, 14, 30, 0, 64, 254, 511, 1023, 2047, 4095] } | _ => {}, join := fun i => match i with | 6 => some [0, 3] | _ => none}
theorem Fspec_l11Heap_say.eq (t0 t1 : Value) : trF PR CX Fspec_l11Heap_say.H Tryz.f239 [t0, t1] = Fspec_l11Heap_say t0 t1 := by kernel_rfl
theorem Fspec_l11Heap_say.cl {t0 t1 : Value} {w : World} {R : VW} (h : Fspec_l11Heap_say t0 t1 w R) : clT PR 239 [t0, t1] w R := cl_of_tr (H := Fspec_l11Heap_say.H) ctxOk Tryz.func239 rfl (by rw [Fspec_l11Heap_say.eq]; exact h)
def Fspec_l11Bit (t0 : Value) (w : World) (R : VW) : Prop :=
  allocT 127 #[(.int .i64 0), (.int .i64 0)] w fun t2 w1 =>
  condT t0
  (clT PR 234 [(.int .i64 1)] w1 fun t4 w2 =>
  stsT 2 t2 t4 w2 fun w3 =>
  ldsT 2 t2 w3 fun r4 =>
  R r4 w3)
  (clT PR 234 [(.int .i64 0)] w1 fun t5 w5 =>
  stsT 2 t2 t5 w5 fun w6 =>
  ldsT 2 t2 w6 fun r7 =>
  R r7 w6)
def Fspec_l11Bit.H : Hints := {}
theorem Fspec_l11Bit.eq (t0 : Value) : trF PR CX Fspec_l11Bit.H Tryz.f258 [t0] = Fspec_l11Bit t0 := by kernel_rfl
theorem Fspec_l11Bit.cl {t0 : Value} {w : World} {R : VW} (h : Fspec_l11Bit t0 w R) : clT PR 258 [t0] w R := cl_of_tr (H := Fspec_l11Bit.H) ctxOk Tryz.func258 rfl (by rw [Fspec_l11Bit.eq]; exact h)
def Fspec_l11Heap_die (t0 t1 : Value) (w : World) (R : VW) : Prop :=
  nilT PR t0 fun t6 =>
  fadT 1 t6 fun t7 =>
  fadT 0 t7 fun t8 =>
  ldT t8 w fun t9 =>
  ixaT 6 t9 t1 fun t11 =>
  nilT PR t11 fun t13 =>
  fadT 5 t13 fun t14 =>
  stT t14 (.bool true) w fun w1 =>
  bslT 127 0 2 #[] [] w1 fun t16 w2 =>
  nilT PR t11 fun t17 =>
  fadT 3 t17 fun t18 =>
  stT t18 t16 w2 fun w3 =>
  nilT PR t11 fun t20 =>
  fadT 4 t20 fun t21 =>
  stT t21 (.int .i64 (-1)) w3 fun w4 =>
  R (.tuple #[]) w4
def Fspec_l11Heap_die.H : Hints := {}
theorem Fspec_l11Heap_die.eq (t0 t1 : Value) : trF PR CX Fspec_l11Heap_die.H Tryz.f259 [t0, t1] = Fspec_l11Heap_die t0 t1 := by kernel_rfl
theorem Fspec_l11Heap_die.cl {t0 t1 : Value} {w : World} {R : VW} (h : Fspec_l11Heap_die t0 t1 w R) : clT PR 259 [t0, t1] w R := cl_of_tr (H := Fspec_l11Heap_die.H) ctxOk Tryz.func259 rfl (by rw [Fspec_l11Heap_die.eq]; exact h)
end Go.PT
namespace Go.PT
attribute [local irreducible] ldT ldsT stT stsT allocT boxT bldT bslT nilT fadT ixaT fldT extT lenT pickT binT notT cviT opT opU condT clT clvT ivT loopT arT ndT World.cell? World.frozen? World.alloc World.drew World.setCell Blk Cells Sl
theorem c_l11Num {n : Int} {w : World} {R : VW} (hR : ∀ w', Ext w w' → R (.agg #[.int .i64 1, .int .i64 n]) w') : clT PR 234 [.int .i64 n] w R := by
  refine Fspec_l11Num.cl ?_
  unfold Fspec_l11Num
  have E := En.start w
  refine E.al (fun b w E _ => ?_)
  refine bld_of (cs := #[.int .i64 1, .int .i64 n]) rfl ?_
  refine En.sts' (vs := [.int .i64 1, .int .i64 n]) [] rfl E rfl rfl (by simp [Value.oneCell']) (fun w E _ => ?_)
  repeat (((refine E.lds (by (exact .head _)) (by exact rfl) ?_)))
  exact hR _ E.toExt
theorem c_l11Bit {b : Bool} {w : World} {R : VW} (hR : ∀ w', Ext w w' → R (.agg #[.int .i64 (bitV b).1, .int .i64 (bitV b).2]) w') : clT PR 258 [.bool b] w R := by
  refine Fspec_l11Bit.cl ?_
  unfold Fspec_l11Bit
  have E := En.start w
  refine E.al (fun b w E _ => ?_)
  refine cond_of (fun hb => ?_) (fun hb => ?_) <;>
  · refine c_l11Num (fun w e => ?_)
    have E := E.ext e
    refine En.sts' (vs := [.int .i64 1, .int .i64 _]) [] rfl E rfl rfl (by simp [Value.oneCell']) (fun w E _ => ?_)
    repeat (((refine E.lds (by (exact .head _)) (by exact rfl) ?_)))
    subst hb
    exact hR _ E.toExt
def madeD (op : Int × Int) (args : List V) : V := (madeV op args).getD (0, 0)
theorem c_l11Made {op : Int × Int} {args : List V} {ua : Value} {w : World} {R : VW} (ha : Sl kPair Any w [] args ua) (h5 : op.1 = 5 → 2 ≤ args.length ∧ 0 ≤ (pairAt args 0).2 ∧ (pairAt args 0).2 ≤ 999 ∧ 0 ≤ (pairAt args 1).2 ∧ (pairAt args 1).2 ≤ 999) (h6 : op.1 = 6 → 2 ≤ args.length)
    (hR : ∀ w', Ext w w' → R (.tuple #[.agg #[.int .i64 (madeD op args).1, .int .i64 (madeD op args).2], .bool (madeV op args).isSome]) w') : clT PR 233 [.agg #[.int .i64 op.1, .int .i64 op.2], ua] w R := by
  replace hR : ∀ w' (v : V) b, Ext w w' → (match madeV op args with | some u => v = u ∧ b = true | none => v = (0, 0) ∧ b = false) → R (.tuple #[.agg #[.int .i64 v.1, .int .i64 v.2], .bool b]) w' := fun w' v b e hv => by
    have := hR w' e
    unfold madeD at this
    cases hm : madeV op args with
    | some u => rw [hm] at hv this; obtain ⟨rfl, rfl⟩ := hv; exact this
    | none => rw [hm] at hv this; obtain ⟨rfl, rfl⟩ := hv; exact this
  refine Fspec_l11Made.cl ?_
  unfold Fspec_l11Made
  have E := En.start w
  have A : ∀ {L : Lab} {w' : World} {l}, En noL w L w' l → Sl kPair Any w' [] args ua := fun E => E.any ha
  refine E.box (fun _ _ E _ => ?_)
  refine E.al (fun _ _ E _ => ?_)
  repeat (first | (first | refine fad_of ?_ | refine eql_of ?_) | ((refine E.ld (by first | exact .head _ | exact .tail _ (.head _)) (by exact rfl) ?_)))
  refine condP_of (fun h1 => ?_) (fun h1 => ?_)
  · repeat (first | ((refine fad_of ?_)) | ((refine E.ld (by first | exact .head _ | exact .tail _ (.head _)) (by exact rfl) ?_)))
    refine c_l11Num (fun w e => ?_)
    replace E := E.ext e
    refine En.sts' (vs := [.int .i64 1, .int .i64 op.2]) [] rfl E rfl rfl (by simp [Value.oneCell']) (fun w E _ => ?_)
    repeat (((refine E.lds (by (exact .head _)) (by exact rfl) ?_)))
    exact hR _ (1, op.2) true E.toExt (by unfold madeV; simp [h1])
  repeat (((refine eql_of ?_)))
  refine condP_of (fun h5' => ?_) (fun h5' => ?_)
  · obtain ⟨hl, a0, a1, b0, b1⟩ := h5 h5'
    replace E := E.drew
    refine pair_ix (A E) (by omega) (by omega) (fun b o hc => ?_)
    repeat (first | ((refine fad_of ?_)) | ((apply ld_of; (case h => iterate 14 (first | done | exact Cells.at (by assumption) _ (by exact rfl))))))
    refine pair_ix (A E) (by omega) (by omega) (fun b o hc => ?_)
    repeat (first | ((refine fad_of ?_)) | ((refine add_of (by (omega)) (by (omega)) ?_)) | ((apply ld_of; (case h => iterate 14 (first | done | exact Cells.at (by assumption) _ (by exact rfl))))))
    refine rem_of (by omega) ?_
    refine c_l11Num (fun w e => ?_)
    replace E := E.ext e
    refine En.sts' (vs := [.int .i64 1, .int .i64 _]) [] rfl E rfl rfl (by simp [Value.oneCell']) (fun w E _ => ?_)
    repeat (((refine E.lds (by (exact .head _)) (by exact rfl) ?_)))
    exact hR _ (1, _) true E.toExt (by unfold madeV; rw [if_neg h1, if_pos h5']; exact ⟨rfl, rfl⟩)
  repeat (((refine eql_of ?_)))
  refine condP_of (fun h6' => ?_) (fun h6' => ?_)
  · have hl := h6 h6'
    replace E := E.drew
    refine pair_ix (A E) (by omega) (by omega) (fun b o hc => ?_)
    repeat (((apply lds_of; (case h => iterate 14 (first | done | assumption)); (case hn => exact rfl))))
    refine pair_ix (A E) (by omega) (by omega) (fun b o hc => ?_)
    repeat (((apply lds_of; (case h => iterate 14 (first | done | assumption)); (case hn => exact rfl))))
    refine eqlP_of (u := pairAt args 0) (v := pairAt args 1) (by kernel_rfl) ?_
    refine c_l11Bit (fun w e => ?_)
    replace E := E.ext e
    refine En.sts' (vs := [.int .i64 _, .int .i64 _]) [] rfl E rfl rfl (by simp [Value.oneCell']) (fun w E _ => ?_)
    repeat (((refine E.lds (by (exact .head _)) (by exact rfl) ?_)))
    refine hR _ (bitV (decide (pairAt args 0 = pairAt args 1))) true E.toExt ?_
    unfold madeV
    rw [if_neg h1, if_neg h5', if_pos h6']
    have hbe : (pairAt args 0 == pairAt args 1) = decide (pairAt args 0 = pairAt args 1) := by rw [Bool.eq_iff_iff]; simp
    rw [hbe]
    exact ⟨rfl, rfl⟩
  refine bld_of (cs := #[.int .i64 0, .int .i64 0]) rfl ?_
  refine En.sts' (vs := [.int .i64 0, .int .i64 0]) [] rfl E rfl rfl (by simp [Value.oneCell']) (fun w E _ => ?_)
  repeat (((refine E.lds (by (exact .head _)) (by exact rfl) ?_)))
  exact hR _ (0, 0) false E.toExt (by unfold madeV; rw [if_neg h1, if_neg h5', if_neg h6']; exact ⟨rfl, rfl⟩)
theorem c_l11Kinds {op : Int × Int} {args : List V} {ua : Value} {w : World} {R : VW} (ha : Sl kPair Any w [] args ua) (h5 : op.1 = 5 → 2 ≤ args.length) (h1 : op.1 = 12 ∨ op.1 = 13 ∨ op.1 = 17 ∨ op.1 = 18 ∨ op.1 = 14 ∨ op.1 = 15 → 1 ≤ args.length)
    (hR : ∀ w', Ext w w' → R (.bool (kindsOk op args)) w') : clT PR 199 [.agg #[.int .i64 op.1, .int .i64 op.2], ua] w R := by
  replace hR : ∀ w' b, Ext w w' → b = kindsOk op args → R (.bool b) w' := fun w' b e h => h ▸ hR w' e
  refine Fspec_l11Kinds.cl ?_
  unfold Fspec_l11Kinds
  refine box_of' (fun b1 w1 e1 hb1 (k1 : Blk w1 b1 [.int .i64 op.1, .int .i64 op.2]) => ?_)
  repeat' (first | (first | refine fad_of ?_ | refine eql_of ?_) | ((fail)) | ((apply ld_of; (case h => iterate 14 (first | done | exact Blk.cell (by assumption) (by exact rfl) | exact Cells.at (by assumption) _ (by exact rfl))))) | (refine Sl.len_of (by assumption) ?_) | ((refine condP_t (by omega) ?_)) | ((refine condP_of (fun _ => ?_) (fun _ => ?_))) | refine pair_ix (ha.ext e1) (by omega) (by omega) (fun _ _ _ => ?_) | (first | (unfold Fspec_l11Kinds.j1; intro _) | (unfold Fspec_l11Kinds.j2; intro _) | (unfold Fspec_l11Kinds.j3; intro _) | (unfold Fspec_l11Kinds.j4; intro _) | (unfold Fspec_l11Kinds.j5; intro _) | (unfold Fspec_l11Kinds.j6; intro _)))
  all_goals exact hR _ _ (by iterate 20 (first | done | assumption)) (by unfold kindsOk; (simp [*, inB_t, inB_f]; done))
theorem c_specTakes {p : Pg} {op : Int × Int} {u : Value} {w : World} {R : VW} (hp : Sl kMeth Any w [] p u) (hpl : p.length ≤ 1073741824)
    (hR : ∀ w', Ext w w' → R (.tuple #[.int .i64 (takes p op).1, .int .i64 (takes p op).2]) w') : clT PR 198 [.agg #[u], .agg #[.int .i64 op.1, .int .i64 op.2]] w R := by
  replace hR : ∀ w' a b, Ext w w' → (a, b) = takes p op → R (.tuple #[.int .i64 a, .int .i64 b]) w' := fun w' a b e h => by have := hR w' e; rw [← h] at this; exact this
  refine Fspec_OpTakes.cl ?_
  unfold Fspec_OpTakes
  refine box_of' (fun b1 w1 e1 hb1 (k1 : Blk w1 b1 [u]) => ?_)
  refine box_of' (fun b2 w2 e2 hb2 (k2 : Blk w2 b2 [.int .i64 op.1, .int .i64 op.2]) => ?_)
  repeat' (first | (first | refine fad_of ?_ | refine eql_of ?_) | ((refine sub_of (by (omega)) (by (omega)) ?_)) | ((apply ld_of; (case h => iterate 14 (first | done | exact Blk.cell (by assumption) (by exact rfl) | exact Cells.at (by assumption) _ (by exact rfl) | (apply Ext.cell (by assumption)))))) | (refine Sl.len_of (by assumption) ?_) | ((refine condP_t (by omega) ?_)) | (first | refine condIn_of (fun _ => ?_) (fun _ => ?_) | refine condP_of (fun _ => ?_) (fun _ => ?_)) | refine meth_ix (hp.ext (e1.trans e2)) (by omega) (by omega) (fun _ _ _ _ _ => ?_) | refine c_specIn ?_ | (first | (unfold Fspec_OpTakes.j1; intro _) | (unfold Fspec_OpTakes.j2; intro _) | (unfold Fspec_OpTakes.j3; intro _) | (unfold Fspec_OpTakes.j4; intro _) | (unfold Fspec_OpTakes.j5; intro _) | (unfold Fspec_OpTakes.j6; intro _) | (unfold Fspec_OpTakes.j7; intro _) | (unfold Fspec_OpTakes.j8; intro _) | (unfold Fspec_OpTakes.j9; intro _) | (unfold Fspec_OpTakes.j10; intro _) | (unfold Fspec_OpTakes.j11; intro _) | (unfold Fspec_OpTakes.j12; intro _) | (unfold Fspec_OpTakes.j13; intro _) | (unfold Fspec_OpTakes.j14; intro _)))
  all_goals exact hR _ _ _ (by iterate 20 (first | done | assumption | (apply fun h => Fr.trans h (by assumption)))) (by unfold takes; (simp [*, inB_t, inB_f]; done))
end Go.PT
namespace Go.PT
attribute [local irreducible] ldT ldsT stT stsT allocT boxT bldT bslT nilT fadT ixaT fldT extT lenT pickT binT notT cviT opT opU condT clT clvT ivT loopT arT ndT World.cell? World.frozen? World.alloc World.drew World.setCell Blk Cells Sl
theorem rep_add (i : Nat) : List.replicate i ((0 : Int), (0 : Int)) ++ [(0, 0)] = List.replicate (i + 1) (0, 0) := by rw [List.replicate_succ']
theorem c_l11None {n : Int} {w : World} {R : VW} (hn : n ≤ 1000000) (hR : ∀ w' v M, Ext w w' → Born w M → Lim M w' → Sl kPair (Own M) w' [] (List.replicate n.toNat (0, 0)) v → R v w') : clT PR 230 [.int .i64 n] w R := by
  refine Fspec_l11None.cl ?_
  unfold Fspec_l11None
  have E := En.start w
  refine E.bsl rfl rfl rfl (fun b w1 E _ => ?_)
  refine loop_of (fun m s wx => ∃ (i : Nat) (v : Value) (L : Lab) (l : List (Nat × List Value)), s = [.int .i64 n, .slice none 0 0, v, .int .i64 i] ∧ i + m = n.toNat ∧ En noL w L wx l ∧ Sl kPair (Own L) wx [] (List.replicate i (0, 0)) v) ?_ (m := n.toNat) ⟨0, _, _, _, rfl, by omega, E, Sl.none0⟩
  rintro m s wx Kn ⟨i, v, L, l, rfl, hi, E, hv⟩ hKn
  intro _
  simp only [List.headD_cons, List.tail_cons]
  repeat (((refine lss_of ?_)))
  refine condP_of (fun hc => ?_) (fun hc => ?_)
  · refine bld_of (cs := #[.int .i64 0, .int .i64 0]) rfl ?_
    refine E.bsl rfl rfl rfl (fun b w2 E e => ?_)
    refine grow_lit (f := fun t : Int × Int => [Value.int .i64 t.1, Value.int .i64 t.2]) [(0, 0)] (by kernel_rfl) (hv.keepX e) (E.blk (.head _)) rfl (by simp; omega) E.mu.lim (fun v' w' L' g _ h2 => ?_)
    repeat (((refine add_of (by (omega)) (by (omega)) ?_)))
    refine hKn (m - 1) _ _ (by omega) ⟨i + 1, v', L', _, rfl, by omega, E.grow g, ?_⟩
    rw [← rep_add]; exact h2
  · intro _
    have : i = n.toNat := by omega
    subst this
    exact hR _ _ _ E.toExt E.born E.mu.lim hv
theorem c_l11Call {p : Pg} {k s : Int} {args : List V} {u ua : Value} {w : World} {R : VW} (hp : Sl kMeth Any w [] p u) (ha : Sl kPair Any w [] args ua) (k0 : 0 ≤ k) (k1 : k < p.length) (hl : args.length ≤ 1000000) (ht0 : 0 ≤ (methAt p k).temps) (ht : (methAt p k).temps ≤ 1000000)
    (hR : ∀ w' M ut us, Ext w w' → Born w M → Lim M w' → Sl kPair (Own M) w' [2] (newC p k args s).temps ut → Sl kPair (Own M) w' [3] [] us → R (.agg (cellsC (newC p k args s) ut us).toArray) w') :
    clT PR 188 [.agg #[u], .int .i64 k, ua, .int .i64 s] w R := by
  refine Fspec_l11Call.cl ?_
  unfold Fspec_l11Call
  have E := En.start w
  refine E.box (fun _ _ E _ => ?_)
  refine E.al (fun _ _ E _ => ?_)
  refine E.bsl rfl rfl rfl (fun b w1 E _ => ?_)
  refine grow_row (q := [2]) (by kernel_rfl) (Sl.none0 (kd := kPair)) (E.any (q := []) ha) (by simp; omega) E.mu.lim (fun v1 w1 L1 g _ h1 => ?_)
  replace E := E.grow g
  repeat (first | ((refine fad_of ?_)) | ((refine E.ld (by first | exact .head _ | exact .tail _ (.tail _ (.head _))) (by exact rfl) ?_)))
  refine meth_ix (E.any (q := []) hp) k0 k1 (fun b o um hc _ => ?_)
  repeat (first | ((refine fad_of ?_)) | ((refine sub_of (by (omega)) (by (omega)) ?_)) | ((apply ld_of; (case h => iterate 14 (first | done | exact Cells.at (by assumption) _ (by exact rfl))))) | (refine Sl.len_of (by assumption) ?_))
  refine c_l11None (by omega) (fun w2 v2 M2 e2 _ _ h2 => ?_)
  replace E := E.ext e2
  refine grow_row (q := [2]) (by kernel_rfl) (h1.keepX e2) h2 (by simp; omega) E.mu.lim (fun v3 w3 L3 g _ h3 => ?_)
  replace E := E.grow g
  refine E.bsl rfl rfl rfl (fun b4 w4 E e4 => ?_)
  obtain ⟨A3, c3, hv3⟩ := h3.is
  have h5 := h3.keepX e4
  rw [hv3] at h5 ⊢
  refine bld_of (cs := #[.int .i64 k, .int .i64 0, _, .slice (some ⟨b4, 0, none⟩) 0 0, .int .i64 s, .bool false]) rfl ?_
  refine En.sts' (vs := [.int .i64 k, .int .i64 0, _, .slice (some ⟨b4, 0, none⟩) 0 0, .int .i64 s, .bool false]) [_, _] rfl E rfl rfl (fun u hu => List.all_eq_true.mp rfl u hu) (fun w6 E e6 => ?_)
  repeat (((refine E.lds (by first | exact .head _ | exact .tail _ (.tail _ (.head _))) (by exact rfl) ?_)))
  refine hR _ _ _ _ E.toExt E.born E.mu.lim ?_ Sl.none0
  exact h5.loc e6
theorem c_now {L : Lab} {w : World} {m : Nat} {u vc vs : Value} {h : Hp} {R : VW} (S : SM L w m [u] h vc vs) (h0 : 0 ≤ h.now) (h1 : h.now < h.calls.length)
    (hR : ∀ b o ut us, Foc L w.drew vc h.now (nowC h) b o ut us → R (.pointer (some ⟨b, o, none⟩)) w.drew) : clT PR 197 [.pointer (some ⟨m, 0, none⟩)] w R := by
  refine Fspec_l11Heap_now.cl ?_
  unfold Fspec_l11Heap_now
  replace S := S.drew
  repeat (first | (first | refine fad_of ?_ | refine nil_of ?_) | ((refine ld_of (S.cell (by exact rfl)) ?_)))
  exact S.ix h0 h1 hR
theorem c_die {L : Lab} {w : World} {m : Nat} {u vc vs : Value} {h : Hp} {i : Int} {R : VW} (S : SM L w m [u] h vc vs) (h0 : 0 ≤ i) (h1 : i < h.calls.length)
    (hR : ∀ w', Mut L w L w' → SM L w' m [u] (dieH h i) vc vs → R (.tuple #[]) w') : clT PR 259 [.pointer (some ⟨m, 0, none⟩), .int .i64 i] w R := by
  refine Fspec_l11Heap_die.cl ?_
  unfold Fspec_l11Heap_die
  have E := En.init S.lim
  repeat (first | (first | refine fad_of ?_ | refine nil_of ?_) | ((refine ld_of (S.cell (by exact rfl)) ?_)))
  refine S.ix h0 h1 (fun b o ut us F => ?_)
  repeat ((first | refine fad_of ?_ | refine nil_of ?_))
  refine S.st F h0 h1 rfl (by decide) (c' := { callAt h.calls i with dead := true }) rfl F.temps F.stack (fun w1 m1 S F => ?_)
  replace E := E.call m1
  refine E.bsl rfl rfl rfl (fun b2 w2 E e2 => ?_)
  replace S := S.ext e2
  replace F := F.ext e2
  repeat ((first | refine fad_of ?_ | refine nil_of ?_))
  refine S.st F h0 (by rw [putC_len]; exact h1) rfl (by decide) (c' := { callAt h.calls i with dead := true, stack := [] }) rfl F.temps Sl.none0 (fun w3 m3 S F => ?_)
  replace E := E.call m3
  repeat ((first | refine fad_of ?_ | refine nil_of ?_))
  refine S.st F h0 (by rw [putC_len, putC_len]; exact h1) rfl (by decide) (c' := dieC (callAt h.calls i)) rfl F.temps Sl.none0 (fun w4 m4 S F => ?_)
  replace E := E.call m4
  refine hR _ E.mu ?_
  have e : putC (putC (putC h i { callAt h.calls i with dead := true }) i { callAt h.calls i with dead := true, stack := [] }) i (dieC (callAt h.calls i)) = dieH h i := by unfold dieH putC; simp [List.set_set]
  rw [← e]; exact S
theorem c_say {L : Lab} {w : World} {m : Nat} {u vc vs : Value} {h : Hp} {v : V} {R : VW} (S : SM L w m [u] h vc vs) (hv : v.1 = 2 → 0 ≤ v.2 ∧ v.2 < h.calls.length) (hr : h.said.length + 1 ≤ 1073741824)
    (hR : ∀ w' L' vs', Mut L w L' w' → SM L' w' m [u] (sayH h v) vc vs' → R (.tuple #[]) w') : clT PR 239 [.pointer (some ⟨m, 0, none⟩), .agg #[.int .i64 v.1, .int .i64 v.2]] w R := by
  refine Fspec_l11Heap_say.cl ?_
  unfold Fspec_l11Heap_say
  have E := En.init S.lim
  refine E.box (fun b1 w1 E e1 => ?_)
  replace S := S.ext e1
  have fin : ∀ {w2 : World} (E : En L w L w2 [(b1, [.int .i64 (saidV h v).1, .int .i64 (saidV h v).2])]) (S : SM L w2 m [u] h vc vs), Fspec_l11Heap_say.j1 (.pointer (some ⟨m, 0, none⟩)) (.pointer (some ⟨b1, 0, none⟩)) w2 R := by
    intro w2 E S
    intro _
    replace E := E.drew
    replace S := S.drew
    repeat (first | (first | refine fad_of ?_ | refine nil_of ?_) | (first | refine E.lds (by (exact .head _)) (by exact rfl) ?_ | refine ld_of (S.cell (by exact rfl)) ?_))
    refine E.bsl rfl rfl rfl (fun b3 w3 E e3 => ?_)
    replace S := S.ext e3
    refine ⟨?_, ?_⟩
    · repeat (((refine ld_of (S.cell (by exact rfl)) ?_)))
      rfl
    refine S.appSaid (v := saidV h v) (by kernel_rfl) (E.blk (.head _)) rfl hr (fun v' w' L' m' S hs => ?_)
    replace E := E.call m'
    repeat ((first | refine fad_of ?_ | refine nil_of ?_))
    refine S.stM hs.one (by simp) (h' := sayH h v) rfl S.calls hs (fun w4 m4 _ S => ?_)
    exact hR _ _ _ (E.call m4).mu S
  repeat (first | (first | refine fad_of ?_ | refine eql_of ?_) | ((refine E.ld (by (exact .head _)) (by exact rfl) ?_)))
  refine condP_of (fun h2 => ?_) (fun h2 => ?_)
  · obtain ⟨v0, v1⟩ := hv h2
    replace E := E.drew
    replace S := S.drew
    repeat (first | (first | refine fad_of ?_ | refine nil_of ?_) | (first | refine E.ld (by (exact .head _)) (by exact rfl) ?_ | refine ld_of (S.cell (by exact rfl)) ?_))
    refine S.ix v0 v1 (fun b o ut us F => ?_)
    repeat (first | ((refine fad_of ?_)) | ((refine ld_of (F.cells.at _ (by exact rfl)) ?_)))
    refine En.st' [] E (show 1 < 2 by decide) rfl (fun w2 E e2 => ?_)
    refine fin ?_ (S.loc e2)
    unfold saidV
    rw [if_pos h2]
    exact E
  · refine fin ?_ S
    unfold saidV
    rw [if_neg h2]
    exact E
end Go.PT
namespace Go.PT
attribute [local irreducible] ldT ldsT stT stsT allocT boxT bldT bslT nilT fadT ixaT fldT extT lenT pickT binT notT cviT opT opU condT clT clvT ivT loopT arT ndT World.cell? World.frozen? World.alloc World.drew World.setCell Blk Cells Sl
theorem c_look {L : Lab} {w : World} {m : Nat} {u vc vs : Value} {h : Hp} {op : Int × Int} {i : Int} {R : VW} (S : SM L w m [u] h vc vs) (h0 : 0 ≤ i) (h1 : i < h.calls.length) (ho : 0 ≤ op.2)
    (hR : ∀ w', Ext w w' → R (.agg #[.int .i64 (lookV h op i).1, .int .i64 (lookV h op i).2]) w') : clT PR 237 [.pointer (some ⟨m, 0, none⟩), .agg #[.int .i64 op.1, .int .i64 op.2], .int .i64 i] w R := by
  replace hR : ∀ w' (v : V), Ext w w' → v = lookV h op i → R (.agg #[.int .i64 v.1, .int .i64 v.2]) w' := fun w' v e hv => hv ▸ hR w' e
  refine Fspec_l11Heap_look.cl ?_
  unfold Fspec_l11Heap_look
  have S0 := S
  have E := En.start w
  refine E.box (fun b1 w1 E e1 => ?_)
  refine E.al (fun b2 w2 E e2 => ?_)
  replace S := S0.ext E.toExt
  repeat (first | (first | refine fad_of ?_ | refine nil_of ?_) | ((refine ld_of (S.cell (by exact rfl)) ?_)))
  refine S.ix h0 h1 (fun b o ut us F => ?_)
  generalize hc : callAt h.calls i = c at F
  repeat (((refine lds_of F.cells (by exact rfl) ?_)))
  refine E.als (vs := cellsC c ut us) rfl rfl rfl (by intro x hx; simp only [cellsC, List.mem_cons, List.not_mem_nil, or_false] at hx; rcases hx with h | h | h | h | h | h <;> rw [h] <;> first | rfl | exact F.temps.one | exact F.stack.one) (fun b3 w3 E e3 => ?_)
  replace F := F.ext e3
  have fin : ∀ {w4 : World} {v : V} {l0 : List (Nat × List Value)} {c0 : List Value} (E : En noL w noL w4 (l0 ++ (b2, c0) :: [(b1, [.int .i64 op.1, .int .i64 op.2])])) (hl : c0.length = 2) (hv : v = lookV h op i), stsT 2 (.pointer (some ⟨b2, 0, none⟩)) (.agg #[.int .i64 v.1, .int .i64 v.2]) w4 (fun w5 => ldsT 2 (.pointer (some ⟨b2, 0, none⟩)) w5 fun r6 => R r6 w5) := by
    intro w4 v l0 c0 E hl hv
    refine En.sts' (vs := [.int .i64 v.1, .int .i64 v.2]) l0 rfl E rfl hl (fun u hu => List.all_eq_true.mp rfl u hu) (fun w E _ => ?_)
    refine E.lds (List.mem_append.mpr (.inr (.head _))) rfl ?_
    exact hR _ v E.toExt hv
  repeat (first | (first | refine fad_of ?_ | refine eql_of ?_) | ((refine E.ld (by first | exact .head _ | exact .tail _ (.tail _ (.head _))) (by exact rfl) ?_)))
  refine condP_of (fun c12 => ?_) (fun c12 => ?_)
  · repeat (first | (first | refine fad_of ?_ | refine geq_of ?_) | ((refine E.ld (by (exact .head _)) (by exact rfl) ?_)))
    refine condP_of (fun hs => ?_) (fun hs => ?_)
    · repeat (first | ((refine fad_of ?_)) | ((refine E.ld (by (exact .head _)) (by exact rfl) ?_)))
      refine bld_of (cs := #[.int .i64 2, .int .i64 c.sender]) rfl ?_
      exact fin (v := (2, c.sender)) (l0 := [_]) E rfl (by unfold lookV; rw [if_pos c12, hc, if_pos hs])
    · refine bld_of (cs := #[.int .i64 0, .int .i64 0]) rfl ?_
      exact fin (v := (0, 0)) (l0 := [_]) E rfl (by unfold lookV; rw [if_pos c12, hc, if_neg hs])
  repeat (((refine eql_of ?_)))
  refine condP_of (fun c13 => ?_) (fun c13 => ?_)
  · repeat (first | ((refine fad_of ?_)) | ((refine E.ld (by first | exact .head _ | exact .tail _ (.tail _ (.head _))) (by exact rfl) ?_)))
    refine F.temps.len_of ?_
    repeat (((refine lss_of ?_)))
    refine condP_of (fun hs => ?_) (fun hs => ?_)
    · repeat (first | ((refine fad_of ?_)) | ((refine E.ld (by first | exact .head _ | exact .tail _ (.tail _ (.head _))) (by exact rfl) ?_)))
      refine pair_ix (F.temps.any (q := [])) ho hs (fun b o hcell => ?_)
      repeat (((apply lds_of; (case h => iterate 14 (first | done | assumption)); (case hn => exact rfl))))
      exact fin (v := pairAt c.temps op.2) (l0 := [_]) E rfl (by unfold lookV; rw [if_neg c12, if_pos c13, hc, if_pos hs])
    · refine bld_of (cs := #[.int .i64 0, .int .i64 0]) rfl ?_
      exact fin (v := (0, 0)) (l0 := [_]) E rfl (by unfold lookV; rw [if_neg c12, if_pos c13, hc, if_neg hs])
  repeat (((refine eql_of ?_)))
  refine condP_of (fun c17 => ?_) (fun c17 => ?_)
  · repeat (first | ((refine fad_of ?_)) | ((refine E.ld (by (exact .head _)) (by exact rfl) ?_)))
    refine c_l11Bit (fun w4 e4 => ?_)
    exact fin (l0 := [_]) (E.ext e4) rfl (by unfold lookV; rw [if_neg c12, if_neg c13, if_pos c17, hc])
  repeat (((refine eql_of ?_)))
  refine condP_of (fun c18 => ?_) (fun c18 => ?_)
  · repeat (first | ((refine fad_of ?_)) | ((refine E.ld (by (exact .head _)) (by exact rfl) ?_)))
    refine c_l11Num (fun w4 e4 => ?_)
    exact fin (v := (1, c.pc)) (l0 := [_]) (E.ext e4) rfl (by unfold lookV; rw [if_neg c12, if_neg c13, if_neg c17, if_pos c18, hc])
  · refine bld_of (cs := #[.int .i64 0, .int .i64 0]) rfl ?_
    exact fin (v := (0, 0)) (l0 := [_]) E rfl (by unfold lookV; rw [if_neg c12, if_neg c13, if_neg c17, if_neg c18])
theorem c_call {L : Lab} {w : World} {m n : Nat} {u vc vs ua : Value} {p : Pg} {h : Hp} {k : Int} {args : List V} {R : VW} (S : SM L w m [u] h vc vs) (hp : Sl kMeth (Un L n) w [] p u) (hn : n ≤ w.heap.size) (ha : Sl kPair (Un L n) w [] args ua)
    (k0 : 0 ≤ k) (k1 : k < p.length) (hl : args.length ≤ 1000000) (ht0 : 0 ≤ (methAt p k).temps) (ht : (methAt p k).temps ≤ 1000000) (hcl : h.calls.length ≤ 1000000) (hb0 : 0 ≤ h.born) (hb : h.born ≤ 1000000)
    (hR : ∀ w' L' vc', Mut L w L' w' → SM L' w' m [u] (callH p h k args) vc' vs → R (.tuple #[]) w') : clT PR 235 [.pointer (some ⟨m, 0, none⟩), .int .i64 k, ua] w R := by
  refine Fspec_l11Heap_call.cl ?_
  unfold Fspec_l11Heap_call
  have E := En.init S.lim
  repeat (first | (first | refine fad_of ?_ | refine nil_of ?_ | refine geq_of ?_) | ((refine ld_of (S.cell (by exact rfl)) ?_)))
  refine condGe_of (fun hf => ?_) (fun hf => ?_)
  · repeat ((first | refine fad_of ?_ | refine nil_of ?_))
    refine S.stM rfl (by simp) (h' := { h with code := 3 }) rfl S.calls S.said (fun w1 m1 _ S => ?_)
    exact hR _ _ _ m1 (by unfold callH; rw [if_pos hf]; exact S)
  replace E := E.drew
  replace S := S.drew
  repeat (first | (first | refine fad_of ?_ | refine nil_of ?_) | ((refine ld_of (S.cell (by exact rfl)) ?_)))
  refine lds_of (S.blk.part 0 1 rfl) rfl ?_
  repeat (first | (first | refine fad_of ?_ | refine nil_of ?_) | ((refine ld_of (S.cell (by exact rfl)) ?_)))
  refine c_l11Call (E.unAny hp hn) (E.unAny ha hn) k0 k1 hl ht0 ht (fun w2 M ut us e2 hbM hlM ht2 hs2 => ?_)
  have hap := apart_of S.lim hbM
  have ht3 := ht2.inR (q := [0, h.calls.length]) hap
  have hs3 := hs2.inR (q := [0, h.calls.length]) hap
  replace E := E.join [0, h.calls.length] e2 hbM hlM
  replace S := (S.ext e2).join (q := [0, h.calls.length]) hlM
  refine ⟨?_, ?_⟩
  · repeat (((refine ld_of (S.cell (by exact rfl)) ?_)))
    rfl
  refine E.bsl rfl rfl rfl (fun b3 w3 E e3 => ?_)
  replace S := S.ext e3
  refine ⟨?_, ?_⟩
  · repeat (((refine ld_of (S.cell (by exact rfl)) ?_)))
    rfl
  refine S.appCall (c' := newC p k args h.now) (by kernel_rfl) (E.blk (.head _)) (ht3.keepX e3) (hs3.keepX e3) rfl (by omega) (fun v' w4 L4 m4 S hcs => ?_)
  replace E := E.call m4
  repeat ((first | refine fad_of ?_ | refine nil_of ?_))
  refine S.stM hcs.one (by simp) (h' := { h with calls := h.calls ++ [newC p k args h.now] }) rfl hcs S.said (fun w5 m5 _ S => ?_)
  replace E := E.call m5
  repeat (first | (first | refine fad_of ?_ | refine nil_of ?_) | ((refine add_of (by (dsimp only; omega)) (by (dsimp only; omega)) ?_)) | ((refine ld_of (S.cell (by exact rfl)) ?_)))
  refine S.stM rfl (by simp) (h' := { h with calls := h.calls ++ [newC p k args h.now], born := h.born + 1 }) rfl S.calls S.said (fun w6 m6 _ S => ?_)
  replace E := E.call m6
  repeat (first | (first | refine fad_of ?_ | refine nil_of ?_) | ((refine sub_of (by (omega)) (by (simp only [List.length_append, List.length_cons, List.length_nil]; omega)) ?_)) | ((refine ld_of (S.cell (by exact rfl)) ?_)) | (refine Sl.len_of (by assumption) ?_))
  have hC : callH p h k args = { h with calls := h.calls ++ [newC p k args h.now], now := h.calls.length, born := h.born + 1 } := by
    unfold callH; rw [if_neg (by omega)]
  rw [hC] at hR
  refine S.stM rfl (by simp) (h' := { h with calls := h.calls ++ [newC p k args h.now], now := h.calls.length, born := h.born + 1 }) (vc' := v') (vs' := vs) ?_ S.calls S.said (fun w7 m7 _ S => ?_)
  · simp
  · exact hR _ _ _ (E.call m7).mu S
end Go.PT
namespace Go.PT
attribute [local irreducible] ldT ldsT stT stsT allocT boxT bldT bslT nilT fadT ixaT fldT extT lenT pickT binT notT cviT opT opU condT clT clvT ivT loopT arT ndT World.cell? World.frozen? World.alloc World.drew World.setCell Blk Cells Sl
section
variable {L0 L : Lab} {w0 w : World} {l : List (Nat × List Value)} {m b : Nat} {u vc vs : Value} {h : Hp} {v : V} {R : VW}
theorem push_fin {b1 o1 b2 : Nat} {ut us : Value} {n cc : Nat} (S : SM L w m [u] h vc vs) (F : Foc L w vc h.now (nowC h) b1 o1 ut us) (h0 : 0 ≤ h.now) (h1 : h.now < h.calls.length) (hk : Blk w b2 [.int .i64 v.1, .int .i64 v.2]) (hn : n = 1) (hr : (nowC h).stack.length + 1 ≤ 1073741824)
    {t ty : Nat} (hc : appB PR t (PR.elem t) 2 = true) (hR : ∀ w' L', Mut L w L' w' → SM L' w' m [u] (pushH h v) vc vs → R (.tuple #[]) w') :
    opT PR (Builtin.append_ #[t, t] ty #[us, .slice (some ⟨b2, 0, none⟩) n cc]) w fun t40 w10 => nilT PR (.pointer (some ⟨b1, o1, none⟩)) fun t41 => fadT 3 t41 fun t42 => stT t42 t40 w10 fun w11 => R (.tuple #[]) w11 := by
  refine S.app1 (v := v) hc F h0 h1 rfl hk hn hr (fun v' w' L' m' S F hs => ?_)
  (refine nil_of ?_)
  (refine fad_of ?_)
  refine S.st F h0 h1 hs.one (by decide) (c' := pushC (nowC h) v) rfl F.temps hs (fun w2 m2 S F => ?_)
  exact hR _ _ (m'.trans m2) S
theorem push_alts (E : En L0 w0 L w l) (S : SM L w m [u] h vc vs) (h0 : 0 ≤ h.now) (h1 : h.now < h.calls.length) (hb : (b, [.int .i64 v.1, .int .i64 v.2]) ∈ l) (hr : (nowC h).stack.length + 1 ≤ 1073741824) (hR : ∀ w' L', Mut L w L' w' → SM L' w' m [u] (pushH h v) vc vs → R (.tuple #[]) w') :
    ldsT 2 (.pointer (some ⟨b, 0, none⟩)) (w.drew) fun t51 =>
  (clT PR 197 [(.pointer (some ⟨m, 0, none⟩))] (w.drew) fun t45 w6 =>
  (ldsT 2 (.pointer (some ⟨b, 0, none⟩)) w6 fun u => u = t51) ∧
  (clT PR 197 [(.pointer (some ⟨m, 0, none⟩))] w6 fun t47 w7 =>
  (ldsT 2 (.pointer (some ⟨b, 0, none⟩)) w7 fun u => u = t51) ∧
  nilT PR t47 fun t48 =>
  fadT 3 t48 fun t49 =>
  ldT t49 w7 fun t50 =>
  bslT 127 1 2 #[(.int .i64 0), (.int .i64 0)] [(0, 2, t51)] w7 fun t52 w8 =>
  (ldT t49 w8 fun u => u = t50) ∧
  opT PR (Builtin.append_ #[35, 35] 35 #[t50, t52]) w8 fun t53 w9 =>
  nilT PR t45 fun t54 =>
  fadT 3 t54 fun t55 =>
  stT t55 t53 w9 fun w10 =>
  R (.tuple #[]) w10) ∧
  (bslT 127 1 2 #[(.int .i64 0), (.int .i64 0)] [(0, 2, t51)] w6 fun t52 w11 =>
  clT PR 197 [(.pointer (some ⟨m, 0, none⟩))] w11 fun t47 w12 =>
  (ldsT 2 (.pointer (some ⟨b, 0, none⟩)) w12 fun u => u = t51) ∧
  nilT PR t47 fun t48 =>
  fadT 3 t48 fun t49 =>
  ldT t49 w12 fun t50 =>
  opT PR (Builtin.append_ #[35, 35] 35 #[t50, t52]) w12 fun t53 w13 =>
  nilT PR t45 fun t54 =>
  fadT 3 t54 fun t55 =>
  stT t55 t53 w13 fun w14 =>
  R (.tuple #[]) w14)) ∧
  (bslT 127 1 2 #[(.int .i64 0), (.int .i64 0)] [(0, 2, t51)] (w.drew) fun t52 w15 =>
  clT PR 197 [(.pointer (some ⟨m, 0, none⟩))] w15 fun t45 w16 =>
  (ldsT 2 (.pointer (some ⟨b, 0, none⟩)) w16 fun u => u = t51) ∧
  clT PR 197 [(.pointer (some ⟨m, 0, none⟩))] w16 fun t47 w17 =>
  (ldsT 2 (.pointer (some ⟨b, 0, none⟩)) w17 fun u => u = t51) ∧
  nilT PR t47 fun t48 =>
  fadT 3 t48 fun t49 =>
  ldT t49 w17 fun t50 =>
  opT PR (Builtin.append_ #[35, 35] 35 #[t50, t52]) w17 fun t53 w18 =>
  nilT PR t45 fun t54 =>
  fadT 3 t54 fun t55 =>
  stT t55 t53 w18 fun w19 =>
  R (.tuple #[]) w19) := by
  replace E := E.drew
  replace S := S.drew
  have same : ∀ {w' : World} {b1 o1 b2 o2 : Nat} {ut us ut2 us2 : Value}, Foc L w' vc h.now (nowC h) b1 o1 ut us → Foc L w' vc h.now (nowC h) b2 o2 ut2 us2 → b1 = b2 ∧ o1 = o2 := by
    intro w' b1 o1 b2 o2 ut us ut2 us2 F F2
    obtain ⟨n, c, o, e1, e2⟩ := F.at'
    obtain ⟨n', c', o', e3, e4⟩ := F2.at'
    rw [e1] at e3
    injection e3 with e5
    injection e5 with e5
    injection e5 with e5 e6
    exact ⟨e5, by omega⟩
  refine E.lds hb rfl ?_
  have done : ∀ {w' : World} {b1 o1 b2 o2 b3 : Nat} {ut us ut2 us2 : Value} (e : Ext w.drew w'), SM L w' m [u] h vc vs → Foc L w' vc h.now (nowC h) b1 o1 ut us → Foc L w' vc h.now (nowC h) b2 o2 ut2 us2 → Blk w' b3 [.int .i64 v.1, .int .i64 v.2] →
      opT PR (Builtin.append_ #[35, 35] 35 #[us2, .slice (some ⟨b3, 0, none⟩) 1 1]) w' fun t40 w10 => nilT PR (.pointer (some ⟨b1, o1, none⟩)) fun t41 => fadT 3 t41 fun t42 => stT t42 t40 w10 fun w11 => R (.tuple #[]) w11 := by
    intro w' b1 o1 b2 o2 b3 ut us ut2 us2 e S F F2 hk
    obtain ⟨rfl, rfl⟩ := same F F2
    exact push_fin S F2 h0 h1 hk rfl hr (by kernel_rfl) (fun w2 L2 m2 S2 => hR _ _ (((Mut.refl S.lim |> fun _ => Mut.pre ((Fr.refl _ w).drew.trans e) m2))) S2)
  refine ⟨?_, ?_⟩
  · refine c_now S h0 h1 (fun b1 o1 ut1 us1 F1 => ?_)
    replace E := E.drew
    replace S := S.drew
    refine ⟨?_, ?_⟩
    · refine E.lds hb rfl rfl
    refine ⟨?_, ?_⟩
    · refine c_now S h0 h1 (fun b2 o2 ut2 us2 F2 => ?_)
      replace E := E.drew
      replace S := S.drew
      refine ⟨E.lds hb rfl rfl, ?_⟩
      (refine nil_of ?_)
      (refine fad_of ?_)
      refine ld_of (F2.cells.at 3 rfl) ?_
      refine E.bsl rfl rfl rfl (fun b3 w3 E e3 => ?_)
      refine ⟨ld_of ((F2.ext e3).cells.at 3 rfl) rfl, ?_⟩
      exact done ((((Fr.refl _ _).drew).drew).trans e3) (S.ext e3) (F1.drew.ext e3) (F2.ext e3) (E.blk (.head _))
    · refine E.bsl rfl rfl rfl (fun b3 w3 E e3 => ?_)
      refine c_now (S.ext e3) h0 h1 (fun b2 o2 ut2 us2 F2 => ?_)
      replace E := E.drew
      refine ⟨E.lds (.tail _ hb) rfl rfl, ?_⟩
      (refine nil_of ?_)
      (refine fad_of ?_)
      refine ld_of (F2.cells.at 3 rfl) ?_
      exact done (((Fr.refl _ _).drew).trans e3).drew (S.ext e3).drew (F1.ext e3).drew F2 (E.blk (.head _))
  · refine E.bsl rfl rfl rfl (fun b3 w3 E e3 => ?_)
    refine c_now (S.ext e3) h0 h1 (fun b1 o1 ut1 us1 F1 => ?_)
    replace E := E.drew
    refine ⟨E.lds (.tail _ hb) rfl rfl, ?_⟩
    refine c_now (S.ext e3).drew h0 h1 (fun b2 o2 ut2 us2 F2 => ?_)
    replace E := E.drew
    refine ⟨E.lds (.tail _ hb) rfl rfl, ?_⟩
    (refine nil_of ?_)
    (refine fad_of ?_)
    refine ld_of (F2.cells.at 3 rfl) ?_
    exact done e3.drew.drew (S.ext e3).drew.drew F1.drew F2 (E.blk (.head _))
end
theorem c_ret {L : Lab} {w : World} {m : Nat} {u vc vs : Value} {h : Hp} {v : V} {R : VW} (S : SM L w m [u] h vc vs) (h0 : 0 ≤ h.now) (h1 : h.now < h.calls.length) (hs : (nowC h).sender < h.calls.length) (hv : v.1 = 2 → 0 ≤ v.2 ∧ v.2 < h.calls.length) (hr : h.said.length + 1 ≤ 1073741824)
    (hr2 : ∀ i : Int, 0 ≤ i → i < h.calls.length → (callAt h.calls i).stack.length ≤ 1000000)
    (hR : ∀ w' L' vs', Mut L w L' w' → SM L' w' m [u] (retH h v) vc vs' → R (.tuple #[]) w') : clT PR 236 [.pointer (some ⟨m, 0, none⟩), .agg #[.int .i64 v.1, .int .i64 v.2]] w R := by
  refine Fspec_l11Heap_ret.cl ?_
  unfold Fspec_l11Heap_ret
  have E := En.init S.lim
  refine E.box (fun b1 w1 E e1 => ?_)
  replace S := S.ext e1
  refine c_now S h0 h1 (fun b2 o2 ut us F => ?_)
  replace E := E.drew
  replace S := S.drew
  repeat (first | (first | refine fad_of ?_ | refine nil_of ?_) | (first | refine ld_of (S.cell (by exact rfl)) ?_ | refine ld_of (F.cells.at _ (by exact rfl)) ?_))
  refine c_die S h0 h1 (fun w3 m3 S => ?_)
  replace E := E.call m3
  repeat ((first | refine fad_of ?_ | refine nil_of ?_))
  refine S.stM rfl (by simp) (h' := leaveH h) rfl S.calls S.said (fun w4 m4 _ S => ?_)
  replace E := E.call m4
  repeat (((refine lss_of ?_)))
  refine condLt_of (fun hneg => ?_) (fun hneg => ?_)
  · repeat (((refine E.lds (by (exact .head _)) (by exact rfl) ?_)))
    refine c_say S (by rw [leave_len]; exact hv) hr (fun w5 L5 vs5 m5 S => ?_)
    replace E := E.call m5
    repeat ((first | refine fad_of ?_ | refine nil_of ?_))
    refine S.stM rfl (by simp) (h' := { sayH (leaveH h) v with code := 1 }) rfl S.calls S.said (fun w6 m6 _ S => ?_)
    exact hR _ _ _ (E.call m6).mu (by unfold retH; rw [if_pos hneg]; exact S)
  · have hn : (leaveH h).now = (nowC h).sender := rfl
    refine push_alts E S (by rw [hn]; exact hneg) (by rw [hn, leave_len]; exact hs) (.head _) ?_ (fun w5 L5 m5 S => ?_)
    · unfold nowC
      rw [leave_calls, callAt_put h0 h1 (by rw [hn]; exact hneg)]
      split
      · unfold dieC; simp
      · have := hr2 (nowC h).sender hneg hs
        have : (callAt h.calls (leaveH h).now).stack.length ≤ 1000000 := this
        omega
    · exact hR _ _ _ (E.call m5).mu (by unfold retH; rw [if_neg (by omega)]; exact S)
end Go.PT
namespace Go.PT
attribute [local irreducible] ldT ldsT stT stsT allocT boxT bldT bslT nilT fadT ixaT fldT extT lenT pickT binT notT cviT opT opU condT clT clvT ivT loopT arT ndT World.cell? World.frozen? World.alloc World.drew World.setCell Blk Cells Sl
theorem backL_more {to : Int} : ∀ (l : List Int) (n n' : Nat) (h : Hp), Way h.calls h.now l → to ∈ l → l.length ≤ n + 1 → l.length ≤ n' + 1 → backL n h to = backL n' h to
  | [], _, _, _, _, ht, _, _ => by simp at ht
  | x :: l, n, n', h, hw, ht, hl, hl' => by
    have h0 : 0 ≤ h.now := by rw [hw.1]; exact hw.2.1
    by_cases e : h.now = to
    · cases n <;> cases n' <;> simp [backL, e]
    · have hlw := leave_way hw h0
      have ht' : to ∈ l := by
        rcases List.mem_cons.mp ht with h1 | h1
        · exact absurd (hw.1.trans h1.symm) e
        · exact h1
      have hpos := List.length_pos_of_mem ht'
      rw [List.length_cons] at hl hl'
      cases n with
      | zero => omega
      | succ n =>
        cases n' with
        | zero => omega
        | succ n' =>
          unfold backL
          rw [if_neg e, if_neg e]
          exact backL_more l n n' _ hlw ht' (by omega) (by omega)
theorem hok_small {p : Pg} {h : Hp} (H : HOK p h) : h.calls.length ≤ 30 ∧ ∀ i : Int, 0 ≤ i → i < h.calls.length → (callAt h.calls i).stack.length ≤ 6 := by
  have h1 := H.size
  have h2 := H.born2
  refine ⟨by omega, fun i h0 h1 => ?_⟩
  have := (H.at h0 h1).stack
  omega
theorem c_back {L : Lab} {w : World} {m : Nat} {u vc vs : Value} {p : Pg} {h : Hp} {to : Int} {v : V} {R : VW} (S : SM L w m [u] h vc vs) (H : HOK p h) (hr : h.code = 0) (t0 : 0 ≤ to) (t1 : to < h.calls.length)
    (hR : ∀ w' L', Mut L w L' w' → SM L' w' m [u] (backH h to v) vc vs → R (.tuple #[]) w') : clT PR 238 [.pointer (some ⟨m, 0, none⟩), .int .i64 to, .agg #[.int .i64 v.1, .int .i64 v.2]] w R := by
  refine Fspec_l11Heap_back.cl ?_
  unfold Fspec_l11Heap_back
  have E := En.init S.lim
  refine E.box (fun b1 w1 E e1 => ?_)
  replace S := S.ext e1
  repeat (first | (first | refine fad_of ?_ | refine nil_of ?_) | ((refine ld_of (S.cell (by exact rfl)) ?_)))
  refine S.ix t0 t1 (fun b o ut us F => ?_)
  repeat (first | ((refine fad_of ?_)) | ((refine ld_of (F.cells.at _ (by exact rfl)) ?_)))
  refine cond_of (fun hd => ?_) (fun hd => ?_)
  · repeat ((first | refine fad_of ?_ | refine nil_of ?_))
    refine S.stM rfl (by simp) (h' := { h with code := 2 }) rfl S.calls S.said (fun w2 m2 _ S => ?_)
    exact hR _ _ (E.call m2).mu (by unfold backH; rw [if_pos hd]; exact S)
  obtain ⟨l, hw, hcov, hroom⟩ := H.way
  have hin := hcov to t0 t1 hd
  obtain ⟨b1', b2', b3', b4', b5', b6'⟩ := back_ok h.calls.length l h hw H hr hin (by have := hw.len; omega)
  refine loop_of (fun n s wx => ∃ (g : Hp) (l : List Int), s = [.pointer (some ⟨m, 0, none⟩), .int .i64 to, .pointer (some ⟨b1, 0, none⟩)] ∧ En L w L wx [(b1, [.int .i64 v.1, .int .i64 v.2])] ∧ SM L wx m [u] g vc vs ∧ HOK p g ∧ g.code = 0 ∧ Way g.calls g.now l ∧ to ∈ l ∧ l.length = n ∧ g.calls.length = h.calls.length ∧ backL h.calls.length g to = backL h.calls.length h to) ?_ (m := l.length)
    ⟨h, l, rfl, E, S, H, hr, hw, hin, rfl, rfl, rfl⟩
  clear hroom hcov hin E S F
  rintro n s wx Kn ⟨g, l, rfl, E, S, G, gr, gw, gin, hn, gl, gb⟩ hKn
  intro _
  simp only [List.headD_cons, List.tail_cons]
  have g0 := G.now0 gr
  have g1 := G.now2
  repeat (first | (first | refine fad_of ?_ | refine nil_of ?_ | refine neq_of ?_) | ((refine ld_of (S.cell (by exact rfl)) ?_)))
  refine condNe_of (fun hne => ?_) (fun heq => ?_)
  · repeat (first | (first | refine fad_of ?_ | refine nil_of ?_) | ((refine ld_of (S.cell (by exact rfl)) ?_)))
    refine c_now S g0 g1 (fun b2 o2 ut2 us2 F => ?_)
    replace E := E.drew
    replace S := S.drew
    repeat (first | (first | refine fad_of ?_ | refine nil_of ?_) | ((refine ld_of (F.cells.at _ (by exact rfl)) ?_)))
    refine S.stM rfl (by simp) (h' := { g with now := (nowC g).sender }) rfl S.calls S.said (fun w4 m4 _ S => ?_)
    replace E := E.call m4
    refine c_die S g0 g1 (fun w5 m5 S => ?_)
    replace E := E.call m5
    have hgw := leave_way gw g0
    have hl1 := gw.len
    cases l with
    | nil => simp at gin
    | cons x l =>
      have gin' : to ∈ l := by
        rcases List.mem_cons.mp gin with h1 | h1
        · exact absurd (gw.1.trans h1.symm) hne
        · exact h1
      have hgw : Way (leaveH g).calls (leaveH g).now l := hgw
      have hs : 0 ≤ (nowC g).sender := by
        rcases Int.lt_or_le (nowC g).sender 0 with hneg | hpos
        · have e : l = [] := hgw.det (m := []) hneg
          rw [e] at gin'; simp at gin'
        · exact hpos
      obtain ⟨G', _⟩ := G.leave gr hs
      refine hKn l.length _ _ (by rw [← hn]; simp) ⟨leaveH g, l, rfl, E, S, G', gr, hgw, gin', rfl, leave_len.trans gl, ?_⟩
      have hl2 := hgw.len
      rw [leave_len, gl] at hl2
      rw [← gb, List.length_cons, gl] at *
      cases hN : h.calls.length with
      | zero => rw [hN] at hl2; have := List.length_pos_of_mem gin'; omega
      | succ N =>
        rw [hN] at hl1 hl2
        conv => rhs; unfold backL
        rw [if_neg hne]
        exact backL_more l (N + 1) N _ hgw gin' (by omega) (by omega)
  · intro _
    have e : backL h.calls.length g to = g := by cases h.calls.length <;> simp [backL, heq]
    rw [e] at gb
    refine push_alts E S g0 g1 (.head _) ?_ (fun w5 L5 m5 S => ?_)
    · have := (G.at g0 g1).stack
      have : ((nowC g).stack.length : Int) ≤ 6 := this
      omega
    · refine hR _ _ (E.call m5).mu ?_
      unfold backH
      rw [if_neg (by rw [hd]; decide), ← gb]
      exact S
end Go.PT
