/- The program at work. -/
import Derived.Test.YtegddhbcglghdaaGreatGF
import Derived.Laws.CopyRow
import Derived.Laws.Cover3
import Derived.Test.YtegddhbcglghdaaGreatGB
import Derived.Test.YtegddhbcglghdaaGreatHTextD
/- Rows that are made, copied into, cloned. -/
set_option linter.unusedVariables false
set_option linter.unusedSimpArgs false
namespace Go.PT
variable {α : Type}
theorem rep_flat_get (z : List Value) : ∀ (n j : Nat), j < n * z.length → ((List.replicate n z).flatten)[j]? = z[j % z.length]?
  | 0, j, h => by simp at h
  | n + 1, j, h => by
    rw [List.replicate_succ, List.flatten_cons]
    rcases Nat.lt_or_ge j z.length with hj | hj
    · rw [List.getElem?_append_left hj, Nat.mod_eq_of_lt hj]
    · rw [List.getElem?_append_right hj, rep_flat_get z n (j - z.length) (by rw [Nat.add_mul, Nat.one_mul] at h; omega)]
      rw [← Nat.mod_eq_sub_mod hj]
theorem made_flat (z : Array Value) (n : Nat) : (madeCells z (n * z.size)).toList = (List.replicate n z.toList).flatten := by
  have hl : ((List.replicate n z.toList).flatten).length = n * z.size := by
    have := flatten_len (f := fun (_ : Unit) => z.toList) (sz := z.size) (fun _ => by simp) (List.replicate n ())
    rw [List.map_replicate, List.length_replicate] at this
    exact this
  refine List.ext_getElem? fun j => ?_
  rcases Nat.lt_or_ge j (n * z.size) with hj | hj
  · rw [rep_flat_get _ _ _ (by simpa using hj)]
    have hz : 0 < z.size := by
      rcases Nat.eq_zero_or_pos z.size with h | h
      · rw [h] at hj; simp at hj
      · exact h
    have hm : j % z.size < z.size := Nat.mod_lt _ hz
    unfold madeCells
    simp [hj, hm]
  · rw [List.getElem?_eq_none (by unfold madeCells; simpa using hj), List.getElem?_eq_none (by rw [hl]; exact hj)]
/-- A row of a flat kind that lies in a block of its own. -/
theorem sl_flat {sz : Nat} {f : α → List Value} {h1 : ∀ a, (f a).length = sz} {h2 : ∀ a, ∀ v ∈ f a, v.oneCell' = true} {ok : Ok} {w : World} {p : List Nat} {b n cap : Nat} {xs : List α} {rest : List Value} (hb : Blk w b ((xs.map f).flatten ++ rest)) (hn : n = xs.length) (hc : n ≤ cap) (ho : ok w p b (cap * sz)) :
    Sl (Kd.flat sz f h1 h2) ok w p xs (.slice (some ⟨b, 0, none⟩) n cap) := by
  subst hn
  refine ⟨_, cap, rfl, hc, .inr ⟨b, 0, rfl, by simpa [Kd.flat] using ho, fun i x hx => ⟨f x, rfl, fun j c hj => ?_⟩⟩⟩
  refine hb.cell ?_
  have := flatten_get h1 xs i x j c hx hj
  rw [List.getElem?_append_left (List.getElem?_eq_some_iff.mp (by simpa [Kd.flat] using this)).1]
  simpa [Kd.flat] using this
theorem mkf_of {P : Program} {t sz : Nat} {f : α → List Value} {h1 : ∀ a, (f a).length = sz} {h2 : ∀ a, ∀ v ∈ f a, v.oneCell' = true} (a0 : α) {z : Value} {l : Int} {w : World} {k : VW} (hc : appB P t (P.elem t) sz = true) (hz : (P.info? (P.elem t)).bind (·.zero) = some z) (hza : z.cells.toList = f a0) (h0 : 0 ≤ l) (hl : l ≤ 1073741824)
    (hk : ∀ b w', Ext w w' → w.heap.size ≤ b → Blk w' b (((List.replicate l.toNat a0).map f).flatten) → k (.slice (some ⟨b, 0, none⟩) l.toNat l.toNat) w') : opT P (Instr.makeSlice t (.int .i64 l) (.int .i64 l)) w k := by
  refine mk_of hc h0 hl (fun b w' cs e hb kb _ hcs => ?_)
  have := hcs z hz
  have hs : z.cells.size = sz := by rw [← Array.length_toList, hza, h1]
  rw [← hs, made_flat, hza] at this
  rw [this, ← List.map_replicate] at kb
  exact hk b w' e hb kb
theorem copy_of {P : Program} {dT sT ty sz : Nat} {f : α → List Value} {h1 : ∀ a, (f a).length = sz} {h2 : ∀ a, ∀ v ∈ f a, v.oneCell' = true} {ok : Ok} {p : List Nat} {ys : List α} {x : Value} {g n cap : Nat} {cur : List Value} {w : World} {k : VW} (hc : appB P dT (P.elem dT) sz = true) (hx : Sl (Kd.flat sz f h1 h2) ok w p ys x) (hd : dT = sT)
    (hb : Blk w g cur) (hn : ys.length ≤ n) (hcur : n * sz ≤ cur.length) (hk : ∀ w', Fr (fun y => y = g) w w' → Blk w' g ((ys.map f).flatten ++ cur.drop (ys.length * sz)) → k (.int .i64 ys.length) w') :
    opT P (Builtin.copy_ #[dT, sT] ty #[.slice (some ⟨g, 0, none⟩) n cap, x]) w k := by
  subst hd
  obtain ⟨news, s1, s2⟩ := Sl.src (kd := Kd.flat sz f h1 h2) hc hx
  obtain ⟨ht, i, z, hi, hsz, hby, hz, hzs⟩ := appB_of hc
  have hnews : news = (ys.map f).flatten := by
    have hl := s1.newsLen
    have hl : news.length = ys.length * sz := hl
    refine List.ext_getElem? fun j => ?_
    rcases Nat.lt_or_ge j news.length with hj | hj
    · have hsz0 : 0 < sz := by
        rcases Nat.eq_zero_or_pos sz with h | h
        · rw [hl, h] at hj; simp at hj
        · exact h
      have hq : j / sz < ys.length := by rw [Nat.div_lt_iff_lt_mul hsz0]; omega
      obtain ⟨es, e1, e2⟩ := s2 (j / sz) _ (List.getElem?_eq_getElem hq)
      have e1 : es = f ys[j / sz] := e1
      subst e1
      have hm : j % sz < (f ys[j / sz]).length := by rw [h1]; exact Nat.mod_lt _ hsz0
      have a := e2 (j % sz) _ (List.getElem?_eq_getElem hm)
      have b := flatten_get h1 ys (j / sz) _ (j % sz) _ (List.getElem?_eq_getElem hq) (List.getElem?_eq_getElem hm)
      have hj' : j / sz * sz + j % sz = j := by rw [Nat.mul_comm]; exact Nat.div_add_mod _ _
      have a : news[j / sz * sz + j % sz]? = _ := a
      rw [hj'] at a b
      rw [a, b]
    · rw [List.getElem?_eq_none hj, List.getElem?_eq_none (by rw [flatten_len h1, ← hl]; exact hj)]
  have hb' := hb
  obtain ⟨t0, hb0⟩ := hb
  have hlen : news.length = ys.length * sz := s1.newsLen
  have hmul : ys.length * sz ≤ n * sz := Nat.mul_le_mul_right _ hn
  have hst := run_storeCells_at P g 0 t0 news 0 cur.toArray w hb0 (by simp; omega) s1.one
  have hfc := s1.cells
  have hmin : Nat.min ys.length n = ys.length := Nat.min_eq_left hn
  have hrun : (Builtin.copy_ #[dT, dT] ty #[.slice (some ⟨g, 0, none⟩) n cap, x]).run P w = .ok (goInt ys.length) (w.setRow g (cur.take 0 ++ news ++ cur.drop (0 + news.length)).toArray) := by
    have hfc : (Builtin.firstCells i.size ys.length x).run P w = .ok news.toArray w := by rw [hsz]; exact hfc
    simp [Builtin.copy_, run_underlying ht, s1.len, sizeOf, typeInfo, hi, hmin, hfc] 
    have hst' : (storeCells ⟨g, 0, none⟩ news).run P w = _ := hst
    simp [hst']
  unfold opT
  simp only [hrun]
  have e : cur.take 0 ++ news ++ cur.drop (0 + news.length) = (ys.map f).flatten ++ cur.drop (ys.length * sz) := by rw [hnews] at hlen ⊢; simp [hlen]
  rw [e]
  refine hk _ ⟨rfl, rfl, rfl, by simp, fun y _ hy => setRow_other w g y _ hy⟩ ⟨t0, setRow_heap w g _ _ t0 (0, 0) hb0⟩
theorem nilS_of {P : Program} {t e : Nat} {x y : Operand} {A : Option Addr} {n c : Nat} {w : World} {k : VW} (ht : P.underlying t = some (.slice e)) (hk : k (.bool A.isNone) w) :
    opT P (do eqGuard .eql t x y (.slice A n c) (.slice none 0 0); binOp .eql t (.slice A n c) (.slice none 0 0)) w k := by
  have : (do eqGuard .eql t x y (.slice A n c) (.slice none 0 0); binOp .eql t (.slice A n c) (.slice none 0 0) : Sem Value).run P w = .ok (.bool A.isNone) w := by
    simp [eqGuard, binOp, run_equal_slice_nil w t e A n c ht]
  unfold opT
  simp only [this]
  exact hk
theorem iv_of {P : Program} {v : Value} {name : String} {args : List Value} {f : Nat} {bs : Array Value} {w : World} {k : VW} (h : (callMethod v name args.toArray).run P w = .ok (.enter f bs) w) (hk : clT P f bs.toList w k) : ivT P v name args w k := by
  unfold ivT
  simp only [h]
  exact hk
end Go.PT

/- The program's heap at work: small functions, copies, new calls. -/
set_option linter.unusedVariables false
set_option linter.unusedSimpArgs false
namespace Go.PT
attribute [local irreducible] ldT ldsT stT stsT allocT boxT bldT bslT nilT fadT ixaT fldT extT lenT pickT binT notT cviT opT opU condT clT clvT ivT loopT arT ndT World.cell? World.frozen? World.alloc World.drew World.setCell Blk Cells Sl
theorem c_number {n : Int} {w : World} {R : VW} (hR : ∀ w', Ext w w' → R (.agg #[.int .i64 1, .int .i64 n]) w') : clT PR 224 [.int .i64 n] w R := by
  refine Fimpl_number.cl ?_
  unfold Fimpl_number
  have E := En.start w
  refine E.al (fun b w E _ => ?_)
  refine bld_of (cs := #[.int .i64 1, .int .i64 n]) rfl ?_
  refine En.sts' (vs := [.int .i64 1, .int .i64 n]) [] rfl E rfl rfl (fun u hu => List.all_eq_true.mp rfl u hu) (fun w E _ => ?_)
  repeat (((refine E.lds (by (exact .head _)) (by exact rfl) ?_)))
  exact hR _ E.toExt
theorem c_implCall {n : Int} {w : World} {R : VW} (hR : ∀ w', Ext w w' → R (.agg #[.int .i64 2, .int .i64 n]) w') : clT PR 338 [.int .i64 n] w R := by
  refine Fimpl_call.cl ?_
  unfold Fimpl_call
  have E := En.start w
  refine E.al (fun b w E _ => ?_)
  refine bld_of (cs := #[.int .i64 2, .int .i64 n]) rfl ?_
  refine En.sts' (vs := [.int .i64 2, .int .i64 n]) [] rfl E rfl rfl (fun u hu => List.all_eq_true.mp rfl u hu) (fun w E _ => ?_)
  repeat (((refine E.lds (by (exact .head _)) (by exact rfl) ?_)))
  exact hR _ E.toExt
theorem c_truth {b : Bool} {w : World} {R : VW} (hR : ∀ w', Ext w w' → R (.agg #[.int .i64 (bitV b).1, .int .i64 (bitV b).2]) w') : clT PR 225 [.bool b] w R := by
  refine Fimpl_truth.cl ?_
  unfold Fimpl_truth
  have E := En.start w
  refine E.al (fun b w E _ => ?_)
  refine cond_of (fun hb => ?_) (fun hb => ?_) <;>
  · refine c_number (fun w e => ?_)
    have E := E.ext e
    refine En.sts' (vs := [.int .i64 1, .int .i64 _]) [] rfl E rfl rfl (fun u hu => List.all_eq_true.mp rfl u hu) (fun w E _ => ?_)
    repeat (((refine E.lds (by (exact .head _)) (by exact rfl) ?_)))
    subst hb
    exact hR _ E.toExt
theorem c_clone {ok : Ok} {p : List Nat} {xs : List V} {v : Value} {w : World} {R : VW} (h : Sl kPair ok w p xs v) (hl : xs.length ≤ 1073741824)
    (hR : ∀ w' v' M, Ext w w' → Born w M → Lim M w' → Sl kPair (Own M) w' [] xs v' → R v' w') : clT PR 124 [v] w R := by
  refine Fslices_Clone_Val.cl ?_
  unfold Fslices_Clone_Val
  have h0 := h
  unfold Sl at h0
  obtain ⟨A, cap, hv, hcap, h3⟩ := h0
  subst hv
  refine nilS_of (e := PR.elem 35) (by kernel_rfl) ?_
  cases A with
  | none =>
    refine cond_of (fun _ => ?_) (fun h => by cases h)
    have hx : xs = [] := by
      rcases h3 with h3 | ⟨b, o, h3, _⟩
      · exact List.length_eq_zero_iff.mp (by omega)
      · cases h3
    subst hx
    exact hR _ _ noL (Fr.refl _ _) (noL_born _) (noL_lim _) Sl.none0
  | some a =>
    refine cond_of (fun h => by cases h) (fun _ => ?_)
    have E := En.start w
    refine E.bsl rfl rfl rfl (fun b1 w1 E e1 => ?_)
    obtain ⟨news, s1, s2⟩ := Sl.src (P := PR) (t := 35) (e := PR.elem 35) (kd := kPair) (by kernel_rfl) h
    -- the source is read where the empty row was made: it is the same
    have h' : Sl kPair (fun w' q b m => ok w q b m) w1 p xs (.slice (some a) xs.length cap) := h.frame (fun r b m hb => ⟨fun o v hc => Ext.cell e1 hc, hb⟩)
    refine clone_of (by kernel_rfl) h' hl (fun v' w' M e2 hb hl' hs => ?_)
    exact hR _ _ M (e1.trans e2) (fun b q hq => Nat.le_trans e1.size (hb b q hq)) hl' hs
theorem c_callCopied {c : Cl} {ut us : Value} {w : World} {R : VW} (ht : Sl kPair Any w [] c.temps ut) (hs : Sl kPair Any w [] c.stack us) (tl : c.temps.length ≤ 1073741824) (sl : c.stack.length ≤ 1073741824)
    (hR : ∀ w' M ut' us', Ext w w' → Born w M → Lim M w' → Sl kPair (Own M) w' [2] c.temps ut' → Sl kPair (Own M) w' [3] c.stack us' → R (.agg (cellsC c ut' us').toArray) w') :
    clT PR 125 [.agg (cellsC c ut us).toArray] w R := by
  refine Fimpl_Call_copied.cl ?_
  unfold Fimpl_Call_copied
  have E := En.start w
  refine E.box (fun b1 w1 E _ => ?_)
  refine E.al (fun b2 w2 E _ => ?_)
  replace E := E.drew
  repeat (first | ((refine fad_of ?_)) | ((refine E.ld (by first | exact .head _ | exact .tail _ (.head _)) (by exact rfl) ?_)))
  refine c_clone (E.any (q := []) ht) tl (fun w4 v4 M4 e4 hb4 hl4 h4 => ?_)
  have g4 := h4.inR (q := [2]) (apart_of E.mu.lim hb4)
  replace E := E.join [2] e4 hb4 hl4
  refine ⟨by (repeat (((refine E.ld (by first | exact .head _ | exact .tail _ (.head _)) (by exact rfl) ?_)))); rfl, ?_⟩
  (refine fad_of ?_)
  refine c_clone (E.any (q := []) hs) sl (fun w7 v7 M7 e7 hb7 hl7 h7 => ?_)
  have g7 := h7.inR (q := [3]) (apart_of E.mu.lim hb7)
  replace g4 := (g4.keepX e7).inL (q := [3]) (M := M7)
  replace E := E.join [3] e7 hb7 hl7
  refine En.st' [_] E (show 2 < 6 by decide) h4.one (fun w5 E e5 => ?_)
  replace g4 := g4.loc e5
  replace g7 := g7.loc e5
  (refine fad_of ?_)
  refine En.st' [_] E (show 3 < 6 by decide) h7.one (fun w8 E e8 => ?_)
  replace g4 := g4.loc e8
  replace g7 := g7.loc e8
  repeat (((refine E.lds (by first | exact .head _ | exact .tail _ (.head _)) (by exact rfl) ?_)))
  refine En.sts' (vs := cellsC c v4 v7) [] rfl E rfl rfl (by intro x hx; simp only [cellsC, List.mem_cons, List.not_mem_nil, or_false] at hx; rcases hx with h | h | h | h | h | h <;> rw [h] <;> first | rfl | exact h4.one | exact h7.one) (fun w9 E e9 => ?_)
  refine E.lds (by (exact .head _)) rfl ?_
  exact hR _ _ _ _ E.toExt E.born E.mu.lim (g4.loc e9) (g7.loc e9)
theorem c_newCall {q : List Nat} {p : Pg} {k s : Int} {args : List V} {u ua : Value} {w : World} {R : VW} (hp : Sl kMeth Any w [] p u) (ha : Sl kPair Any w q args ua) (k0 : 0 ≤ k) (k1 : k < p.length) (hl : (args.length : Int) ≤ (methAt p k).temps) (ht : (methAt p k).temps ≤ 1000000)
    (hR : ∀ w' M ut, Ext w w' → Born w M → Lim M w' → Sl kPair (Own M) w' [2] (newC p k args s).temps ut → R (.agg (cellsC (newC p k args s) ut (.slice none 0 0)).toArray) w') :
    clT PR 157 [.agg #[u], .int .i64 k, ua, .int .i64 s] w R := by
  refine Fimpl_newCall.cl ?_
  unfold Fimpl_newCall
  have E := En.start w
  refine E.box (fun _ _ E _ => ?_)
  refine E.al (fun _ _ E _ => ?_)
  repeat (first | ((refine fad_of ?_)) | ((refine E.ld (by first | exact .head _ | exact .tail _ (.head _)) (by exact rfl) ?_)))
  refine meth_ix (E.any (q := []) hp) k0 k1 (fun b o um hc _ => ?_)
  repeat (first | ((refine fad_of ?_)) | ((apply ld_of; (case h => iterate 14 (first | done | exact Cells.at (by assumption) _ (by exact rfl))))))
  refine mkf_of (sz := 2) (f := fun t : Int × Int => [Value.int .i64 t.1, Value.int .i64 t.2]) (h1 := fun _ => rfl) (h2 := fun _ v hv => by simp at hv; rcases hv with rfl | rfl <;> rfl) (0, 0) (z := .agg #[.int .i64 0, .int .i64 0]) (by kernel_rfl) (by kernel_rfl) rfl (by omega) (by omega) (fun b3 w3 e3 hb3 k3 => ?_)
  have hzc : (List.map (fun t : Int × Int => [Value.int .i64 t.1, Value.int .i64 t.2]) (List.replicate (methAt p k).temps.toNat (0, 0))).flatten.length = (methAt p k).temps.toNat * 2 := by rw [flatten_len (sz := 2) (fun _ => rfl), List.length_replicate]
  replace E := E.add e3 hb3 k3
  refine bld_of (cs := #[.int .i64 k, .int .i64 0, .slice (some ⟨b3, 0, none⟩) (methAt p k).temps.toNat (methAt p k).temps.toNat, .slice none 0 0, .int .i64 s, .bool false]) rfl ?_
  refine E.als (vs := [.int .i64 k, .int .i64 0, .slice (some ⟨b3, 0, none⟩) (methAt p k).temps.toNat (methAt p k).temps.toNat, .slice none 0 0, .int .i64 s, .bool false]) rfl rfl rfl (fun u hu => List.all_eq_true.mp rfl u hu) (fun b4 w4 E e4 => ?_)
  repeat (first | ((refine fad_of ?_)) | ((refine E.ld (by (exact .head _)) (by exact rfl) ?_)))
  refine copy_of (sz := 2) (f := fun t : Int × Int => [Value.int .i64 t.1, Value.int .i64 t.2]) (by kernel_rfl) (E.any (q := []) ha) rfl (E.blk (.tail _ (.head _))) (by omega) (by rw [hzc]; exact Nat.le_refl _) (fun w5 e5 k5 => ?_)
  have hfresh := (E.loc _ (.tail _ (.head _))).1.2
  replace E := En.put (l1 := [_]) E e5 k5
  have hlen2 : ((args.map fun t : Int × Int => [Value.int .i64 t.1, Value.int .i64 t.2]).flatten).length = args.length * 2 := flatten_len (sz := 2) (fun _ => rfl) args
  repeat (((refine E.lds (by (exact .head _)) (by exact rfl) ?_)))
  refine En.sts' (vs := [.int .i64 k, .int .i64 0, .slice (some ⟨b3, 0, none⟩) (methAt p k).temps.toNat (methAt p k).temps.toNat, .slice none 0 0, .int .i64 s, .bool false]) [_, _] rfl E rfl rfl (fun u hu => List.all_eq_true.mp rfl u hu) (fun w6 E e6 => ?_)
  refine E.lds (by (exact .tail _ (.tail _ (.head _)))) rfl ?_
  have hb6 := E.loc _ (.tail _ (.head _))
  have hB := hb6.1.1
  have hsize : w.heap.size ≤ b3 := hb6.2
  have hcat : (newC p k args s).temps = args ++ List.replicate ((methAt p k).temps.toNat - args.length) (0, 0) := by
    show args ++ List.replicate ((methAt p k).temps - args.length).toNat (0, 0) = _
    congr 2; omega
  have htl : ((newC p k args s).temps).length = (methAt p k).temps.toNat := by rw [hcat, List.length_append, List.length_replicate]; omega
  have hfl : ((newC p k args s).temps.map fun t : Int × Int => [Value.int .i64 t.1, Value.int .i64 t.2]).flatten = (args.map fun t : Int × Int => [Value.int .i64 t.1, Value.int .i64 t.2]).flatten ++ ((List.replicate (methAt p k).temps.toNat ((0 : Int), (0 : Int))).map fun t : Int × Int => [Value.int .i64 t.1, Value.int .i64 t.2]).flatten.drop (args.length * 2) := by
    rw [hcat, List.map_append, List.flatten_append]
    congr 1
    have hsplit : List.replicate (methAt p k).temps.toNat ((0 : Int), (0 : Int)) = List.replicate args.length (0, 0) ++ List.replicate ((methAt p k).temps.toNat - args.length) (0, 0) := by
      rw [List.replicate_append_replicate]; congr 1; omega
    rw [hsplit, List.map_append, List.flatten_append]
    have h2 : ((List.replicate args.length ((0 : Int), (0 : Int))).map fun t : Int × Int => [Value.int .i64 t.1, Value.int .i64 t.2]).flatten.length = args.length * 2 := by rw [flatten_len (sz := 2) (fun _ => rfl), List.length_replicate]
    rw [← h2, List.drop_left]
  refine hR w6 (lab1 b3 [2]) _ E.toExt (lab1_born hsize) (lab1_lim hB.lt) ?_
  refine sl_flat (rest := []) (by rw [hfl, List.append_nil]; exact hB) htl.symm (Nat.le_refl _) ?_
  refine hB.own (by simp [lab1]) ?_
  rw [List.length_append, hlen2, List.length_drop, hzc]
  omega
end Go.PT

/- The program's heap at work: a copy, what an operation takes. -/
set_option linter.unusedVariables false
set_option linter.unusedSimpArgs false
namespace Go.PT
attribute [local irreducible] ldT ldsT stT stsT allocT boxT bldT bslT nilT fadT ixaT fldT extT lenT pickT binT notT cviT opT opU condT clT clvT ivT loopT arT ndT World.cell? World.frozen? World.alloc World.drew World.setCell Blk Cells Sl
theorem c_heapCopied {h : Hp} {uc us : Value} {w : World} {R : VW} (hh : HeapV w h uc us)
    (hR : ∀ w' M uc' us', Ext w w' → Born w M → Lim M w' → HOwn M w' h uc' us' → R (.agg (heapCells h uc' us').toArray) w') :
    clT PR 163 [.agg (heapCells h uc us).toArray] w R := by
  refine Fimpl_Heap_copied.cl ?_
  unfold Fimpl_Heap_copied
  have hn := hh.n
  have hcs := hh.calls
  have E := En.start w
  refine E.box (fun b1 w1 E _ => ?_)
  refine E.al (fun b2 w2 E _ => ?_)
  repeat (first | ((refine fad_of ?_)) | ((refine E.ld (by first | exact .head _ | exact .tail _ (.head _)) (by exact rfl) ?_)) | (refine Sl.len_of (by assumption) ?_))
  refine loop_of (fun m s wx => ∃ (i : Nat) (v : Value) (L : Lab) (l : List (Nat × List Value)), s = [.pointer (some ⟨b1, 0, none⟩), .pointer (some ⟨b2, 0, none⟩), v, uc, .int .i64 h.calls.length, .int .i64 i] ∧ i + m = h.calls.length ∧
      En noL w L wx ((b2, [.slice none 0 0, .int .i64 0, .int .i64 0, .slice none 0 0, .int .i64 0]) :: (b1, heapCells h uc us) :: l) ∧ Sl kCall (Own L) wx [0] (h.calls.take i) v) ?_ (m := h.calls.length)
    ⟨0, _, noL, [], rfl, by omega, E, Sl.none0⟩
  clear E
  rintro m s wx Kn ⟨i, v, L, l, rfl, hi, E, hv⟩ hKn
  intro _
  simp only [List.headD_cons, List.tail_cons]
  repeat (((refine lss_of ?_)))
  refine condLt_of (fun hc => ?_) (fun hc => ?_)
  · have hil : i < h.calls.length := by omega
    have hx : h.calls[i]? = some (callAt h.calls i) := by have := callAt_get (cs := h.calls) (i := (i : Int)) (by omega) (by omega); rwa [Int.toNat_natCast] at this
    refine call_ix (i := (i : Int)) (E.any (q := []) hh.calls) (by omega) (by omega) (fun b o u u' hcell hu hu' => ?_)
    obtain ⟨nt, ns⟩ := hh.nt _ (List.mem_of_getElem? hx)
    generalize callAt h.calls (i : Int) = c at hx hcell hu hu' nt ns
    refine lds_of (cs := cellsC c u u') hcell rfl ?_
    refine E.als (vs := cellsC c u u') rfl rfl rfl (by intro x hx; simp only [cellsC, List.mem_cons, List.not_mem_nil, or_false] at hx; rcases hx with h | h | h | h | h | h <;> rw [h] <;> first | rfl | exact hu.one | exact hu'.one) (fun b5 w5 E e5 => ?_)
    repeat (((refine E.lds (by (exact .head _)) (by exact rfl) ?_)))
    refine c_callCopied (hu.ext e5) (hu'.ext e5) nt ns (fun w7 M ut us' e7 hb7 hl7 ht hs => ?_)
    have hap := apart_of E.mu.lim hb7
    have ht3 := ht.inR (q := [0, i]) hap
    have hs3 := hs.inR (q := [0, i]) hap
    replace E := E.join [0, i] e7 hb7 hl7
    have hv7 := ((hv.keepX e5).keepX e7).inL (q := [0, i]) (M := M)
    refine E.bsl rfl rfl rfl (fun b8 w8 E e8 => ?_)
    have hti : (h.calls.take i).length = i := by rw [List.length_take]; omega
    refine grow_one (kd := kCall) c (by kernel_rfl) (hv7.keepX e8) (E.blk (.head _)) ⟨ut, us', rfl, by rw [hti]; exact ht3.keepX e8, by rw [hti]; exact hs3.keepX e8⟩ rfl (by omega) E.mu.lim (fun v9 w9 L9 g9 _ h9 => ?_)
    replace E := E.grow g9
    repeat (((refine add_of (by (omega)) (by (omega)) ?_)))
    refine hKn (m - 1) _ _ (by omega) ⟨i + 1, v9, L9, l, rfl, by omega, E.pop.pop, ?_⟩
    rw [List.take_add_one, hx]
    exact h9
  · intro _
    have hei : h.calls.take i = h.calls := List.take_of_length_le (by omega)
    rw [hei] at hv
    repeat (first | ((refine fad_of ?_)) | ((refine E.ld (by first | exact .head _ | exact .tail _ (.head _)) (by exact rfl) ?_)))
    refine c_clone (E.any (q := []) hh.said) hh.ns (fun w7 v7 M7 e7 hb7 hl7 h7 => ?_)
    have g7 := h7.inR (q := [1]) (apart_of E.mu.lim hb7)
    replace hv := (hv.keepX e7).inL (q := [1]) (M := M7)
    replace E := E.join [1] e7 hb7 hl7
    repeat (((refine fad_of ?_)))
    refine En.st' [_] E (show 0 < 5 by decide) hv.one (fun w8 E e8 => ?_)
    replace hv := hv.loc e8
    replace g7 := g7.loc e8
    repeat (((refine fad_of ?_)))
    refine En.st' [_] E (show 3 < 5 by decide) h7.one (fun w8 E e8 => ?_)
    replace hv := hv.loc e8
    replace g7 := g7.loc e8
    repeat (((refine E.lds (by first | exact .head _ | exact .tail _ (.head _)) (by exact rfl) ?_)))
    refine En.sts' (vs := heapCells h v v7) [] rfl E rfl rfl (by intro x hx; simp only [heapCells, List.mem_cons, List.not_mem_nil, or_false] at hx; rcases hx with h | h | h | h | h <;> rw [h] <;> first | rfl | exact hv.one | exact h7.one) (fun w9 E e9 => ?_)
    refine E.lds (by (exact .head _)) rfl ?_
    exact hR _ _ _ _ E.toExt E.born E.mu.lim ⟨hv.loc e9, g7.loc e9⟩
theorem c_opAt {p : Pg} {k pc : Int} {u : Value} {w : World} {R : VW} (hp : Sl kMeth Any w [] p u) (k0 : 0 ≤ k) (k1 : k < p.length) (hl : (methAt p k).ops.length ≤ 1000000)
    (hR : ∀ w' (op : Int × Int), Ext w w' → (0 ≤ pc ∧ pc ≤ (methAt p k).ops.length - 1 → op = pairAt (methAt p k).ops pc) → R (.tuple #[.agg #[.int .i64 op.1, .int .i64 op.2], .bool (inB pc 0 ((methAt p k).ops.length - 1))]) w') :
    clT PR 221 [.agg #[u], .int .i64 k, .int .i64 pc] w R := by
  refine Fimpl_opAt.cl ?_
  unfold Fimpl_opAt
  have E := En.start w
  refine E.box (fun _ _ E _ => ?_)
  refine E.al (fun _ _ E _ => ?_)
  repeat (first | ((refine fad_of ?_)) | ((refine E.ld (by first | exact .head _ | exact .tail _ (.head _)) (by exact rfl) ?_)))
  refine meth_ix (E.any (q := []) hp) k0 k1 (fun b o um hc hops => ?_)
  repeat (first | ((refine fad_of ?_)) | ((refine sub_of (by (omega)) (by (omega)) ?_)) | ((apply ld_of; (case h => iterate 14 (first | done | exact Cells.at (by assumption) _ (by exact rfl))))) | (refine Sl.len_of (by assumption) ?_))
  refine c_implIn ?_
  repeat (((refine not_of ?_)))
  refine condNIn_of (fun hno => ?_) (fun hyes => ?_)
  · refine bld_of (cs := #[.int .i64 0, .int .i64 0]) rfl ?_
    refine En.sts' (vs := [.int .i64 0, .int .i64 0]) [] rfl E rfl rfl (fun u hu => List.all_eq_true.mp rfl u hu) (fun w E _ => ?_)
    repeat (((refine E.lds (by (exact .head _)) (by exact rfl) ?_)))
    have := hR _ (0, 0) E.toExt (fun h => absurd h hno)
    rw [inB_f hno] at this
    exact this
  · refine pair_ix hops hyes.1 (by omega) (fun b2 o2 hc2 => ?_)
    repeat (((apply lds_of; (case h => iterate 14 (first | done | assumption)); (case hn => exact rfl))))
    refine En.sts' (vs := [.int .i64 (pairAt (methAt p k).ops pc).1, .int .i64 (pairAt (methAt p k).ops pc).2]) [] rfl E rfl rfl (fun u hu => List.all_eq_true.mp rfl u hu) (fun w E _ => ?_)
    repeat (((refine E.lds (by (exact .head _)) (by exact rfl) ?_)))
    have := hR _ (pairAt (methAt p k).ops pc) E.toExt (fun _ => rfl)
    rw [inB_t hyes.1 hyes.2] at this
    exact this
theorem takes_T (p : Pg) (op : Int × Int) (h1 : 1 ≤ op.1) (h18 : op.1 ≤ 18) (h9 : op.1 ≠ 9) : takes p op = (takesT.getD op.1.toNat 0, leftT.getD op.1.toNat 0) := by
  have : op.1 = 1 ∨ op.1 = 2 ∨ op.1 = 3 ∨ op.1 = 4 ∨ op.1 = 5 ∨ op.1 = 6 ∨ op.1 = 7 ∨ op.1 = 8 ∨ op.1 = 10 ∨ op.1 = 11 ∨ op.1 = 12 ∨ op.1 = 13 ∨ op.1 = 14 ∨ op.1 = 15 ∨ op.1 = 16 ∨ op.1 = 17 ∨ op.1 = 18 := by omega
  unfold takes
  rcases this with h | h | h | h | h | h | h | h | h | h | h | h | h | h | h | h | h <;> (rw [h]; rfl)
theorem c_implTakes {p : Pg} {op : Int × Int} {u : Value} {w : World} {R : VW} (hp : Sl kMeth Any w [] p u) (hpl : p.length ≤ 1073741824)
    (hR : ∀ w', Ext w w' → R (.tuple #[.int .i64 (takes p op).1, .int .i64 (takes p op).2]) w') : clT PR 264 [.agg #[u], .agg #[.int .i64 op.1, .int .i64 op.2]] w R := by
  replace hR : ∀ w' a b, Ext w w' → (a, b) = takes p op → R (.tuple #[.int .i64 a, .int .i64 b]) w' := fun w' a b e h => by have := hR w' e; rw [← h] at this; exact this
  refine Fimpl_OpTakes.cl ?_
  unfold Fimpl_OpTakes
  have E := En.start w
  refine E.box (fun _ _ E _ => ?_)
  refine E.box (fun _ _ E _ => ?_)
  repeat (first | ((refine fad_of ?_)) | ((refine E.ld (by (exact .head _)) (by exact rfl) ?_)))
  refine c_mannerOf (fun hno w3 e3 => ?_) (fun hyes w3 s uk f e3 huk _ hs1 hf1 => ?_)
  · replace E := E.ext e3
    refine ext_of rfl ?_
    refine ext_of rfl ?_
    refine E.als (vs := [.string ByteArray.empty, .int .i64 0, .int .i64 0, .slice none 0 0, .nilFunc]) rfl rfl rfl (fun u hu => List.all_eq_true.mp rfl u hu) (fun b4 w4 E e4 => ?_)
    repeat ((first | refine not_of ?_ | refine condT_true ?_))
    refine hR _ 0 0 E.toExt ?_
    unfold takes
    rw [if_neg (by omega), if_neg (by omega), if_neg (by omega), if_neg (by omega), if_neg (by omega), if_neg (by omega), if_neg (by omega)]
  · replace E := E.ext e3
    refine ext_of rfl ?_
    refine ext_of rfl ?_
    refine E.als (vs := [s, .int .i64 (takesT.getD op.1.toNat 0), .int .i64 (leftT.getD op.1.toNat 0), uk, f]) rfl rfl rfl (by intro x hx; simp only [List.mem_cons, List.not_mem_nil, or_false] at hx; rcases hx with h | h | h | h | h <;> rw [h] <;> first | rfl | exact hs1 | exact hf1 | exact huk.one) (fun b4 w4 E e4 => ?_)
    repeat (first | (first | refine fad_of ?_ | refine neq_of ?_ | refine not_of ?_ | refine condT_false ?_) | ((refine E.ld (by first | exact .head _ | exact .tail _ (.head _)) (by exact rfl) ?_)))
    refine condNe_of (fun h9 => ?_) (fun h9 => ?_)
    · replace E := E.drew
      repeat (first | ((refine fad_of ?_)) | ((refine E.ld (by (exact .head _)) (by exact rfl) ?_)))
      exact hR _ _ _ E.toExt (takes_T p op hyes.1 hyes.2 h9).symm
    · have hp' := E.any (q := []) hp
      repeat (first | ((refine fad_of ?_)) | ((refine sub_of (by (omega)) (by (omega)) ?_)) | ((refine E.ld (by first | exact .head _ | exact .tail _ (.head _) | exact .tail _ (.tail _ (.head _))) (by exact rfl) ?_)) | (refine Sl.len_of (by assumption) ?_))
      refine c_implIn ?_
      repeat (((refine not_of ?_)))
      refine condNIn_of (fun hin => ?_) (fun hin => ?_)
      · refine hR _ 0 0 E.toExt ?_
        unfold takes
        simp [h9, inB_f hin]
      · replace E := E.drew
        repeat (first | ((refine fad_of ?_)) | ((refine E.ld (by first | exact .head _ | exact .tail _ (.head _) | exact .tail _ (.tail _ (.head _))) (by exact rfl) ?_)))
        refine meth_ix (E.any (q := []) hp) hin.1 (by omega) (fun b o um hc hops => ?_)
        repeat (first | ((refine fad_of ?_)) | ((refine E.ld (by (exact .head _)) (by exact rfl) ?_)) | ((apply ld_of; (case h => iterate 14 (first | done | exact Cells.at (by assumption) _ (by exact rfl))))))
        refine hR _ _ _ E.toExt ?_
        unfold takes
        simp [h9, inB_t hin.1 hin.2, leftT]
end Go.PT

/- The program's heap at work: what an operation takes, the engine's own functions. -/
set_option linter.unusedVariables false
set_option linter.unusedSimpArgs false
namespace Go.PT
attribute [local irreducible] ldT ldsT stT stsT allocT boxT bldT bslT nilT fadT ixaT fldT extT lenT pickT binT notT cviT opT opU condT clT clvT ivT loopT arT ndT World.cell? World.frozen? World.alloc World.drew World.setCell Blk Cells Sl
theorem kind_cases {k : Int} (h1 : 1 ≤ k) (h18 : k ≤ 18) : k = 1 ∨ k = 2 ∨ k = 3 ∨ k = 4 ∨ k = 5 ∨ k = 6 ∨ k = 7 ∨ k = 8 ∨ k = 9 ∨ k = 10 ∨ k = 11 ∨ k = 12 ∨ k = 13 ∨ k = 14 ∨ k = 15 ∨ k = 16 ∨ k = 17 ∨ k = 18 := by omega
def kindsOf (op : Int × Int) : List Int := kindsT.getD op.1.toNat []
theorem kindsT_len {p : Pg} {op : Int × Int} (h1 : 1 ≤ op.1) (h18 : op.1 ≤ 18) (H : progOk p = true) : ((kindsOf op).length : Int) ≤ (takes p op).1 := by
  have ht := takes_range H op
  unfold kindsOf
  rcases kind_cases h1 h18 with h | h | h | h | h | h | h | h | h | h | h | h | h | h | h | h | h | h
  all_goals first
    | (rw [takes_T p op h1 h18 (by omega), h]; decide)
    | (rw [h]; show (0 : Int) ≤ _; exact ht.1)
theorem kinds_T {op : Int × Int} {args : List V} (h1 : 1 ≤ op.1) (h18 : op.1 ≤ 18) : kindsOk op args = true ↔ ∀ j : Nat, j < (kindsOf op).length → intAt (kindsOf op) j = -1 ∨ (pairAt args j).1 = intAt (kindsOf op) j := by
  have two : ∀ (P : Nat → Prop), (∀ j : Nat, j < 2 → P j) ↔ P 0 ∧ P 1 := fun P => ⟨fun h => ⟨h 0 (by decide), h 1 (by decide)⟩, fun h j hj => by
    have : j = 0 ∨ j = 1 := by omega
    rcases this with rfl | rfl
    · exact h.1
    · exact h.2⟩
  have one : ∀ (P : Nat → Prop), (∀ j : Nat, j < 1 → P j) ↔ P 0 := fun P => ⟨fun h => h 0 (by decide), fun h j hj => by
    have : j = 0 := by omega
    subst this; exact h⟩
  have zero : ∀ (P : Nat → Prop), (∀ j : Nat, j < 0 → P j) ↔ True := fun P => ⟨fun _ => trivial, fun _ j hj => by omega⟩
  unfold kindsOk kindsOf
  rcases kind_cases h1 h18 with h | h | h | h | h | h | h | h | h | h | h | h | h | h | h | h | h | h
  all_goals (rw [h]; simp [kindsT, intAt, two, one, zero])
section
variable {L : Lab} {w : World} {m n b o : Nat} {u vc vs ut us : Value} {p : Pg} {h : Hp} {R : VW}
theorem c_taken {op : Int × Int} (hop : op = opNow p h) (S : SM L w m [] h vc vs) (F : Foc L w vc h.now (nowC h) b o ut us) (hp : Sl kMeth (Un L n) w [] p u) (hn : n ≤ w.heap.size) (H : HOK p h) (hr : h.code = 0) (hpc : (nowC h).pc < (opsNow p h).length)
    (h0R : (leftNow p h < 0 ∨ 6 < leftNow p h + (takes p op).2 ∨ (0 ≤ leftNow p h ∧ kindsOk op (argsNow p h) = false)) → ∀ w', Ext w w' → R (.tuple #[.slice none 0 0, .bool false]) w')
    (h1R : ¬ leftNow p h < 0 → ¬ 6 < leftNow p h + (takes p op).2 → kindsOk op (argsNow p h) = true → ∀ w' L' n' ua us', Mut L w L' w' → SM L' w' m [] (putC h h.now { nowC h with stack := (nowC h).stack.take (leftNow p h).toNat }) vc vs →
      Foc L' w' vc h.now { nowC h with stack := (nowC h).stack.take (leftNow p h).toNat } b o ut us' → Sl kPair (Un L' n') w' [] (argsNow p h) ua → n ≤ n' → n' ≤ w'.heap.size → R (.tuple #[ua, .bool true]) w') :
    clT PR 222 [.agg #[u], .agg #[.int .i64 op.1, .int .i64 op.2], .pointer (some ⟨b, o + 3, none⟩)] w R := by
  have h0 := H.now0 hr
  have h1 := H.now2
  have hf := H.at h0 h1
  have hm := H.meth h0 h1
  have hpl := prog_len H.prog
  have tk := takes_range H.prog op
  have hst : ((nowC h).stack.length : Int) ≤ 6 := hf.stack
  have hleft : ((nowC h).stack.length : Int) - (takes p op).1 = leftNow p h := by rw [hop]; rfl
  have hk1 : 1 ≤ op.1 ∧ op.1 ≤ 18 := by
    rw [hop]
    exact opOk_kind (hm.all _ (pairAt_mem (l := opsNow p h) hf.pc0 hpc))
  refine Fimpl_taken.cl ?_
  unfold Fimpl_taken
  have E := En.init S.lim
  refine E.box (fun b1 w1 E e1 => ?_)
  replace S := S.ext e1
  replace F := F.ext e1
  refine E.box (fun b2 w2 E e2 => ?_)
  replace S := S.ext e2
  replace F := F.ext e2
  have X : Ext w w2 := e1.trans e2
  clear e1 e2
  repeat (((refine E.lds (by first | exact .head _ | exact .tail _ (.head _)) (by exact rfl) ?_)))
  refine c_implTakes (E.unAny hp hn) (by omega) (fun w3 e3 => ?_)
  replace E := E.ext e3
  replace S := S.ext e3
  replace F := F.ext e3
  replace X := X.trans e3
  clear e3
  refine ext_of rfl ?_
  refine ext_of rfl ?_
  repeat (first | ((refine nil_of ?_)) | ((refine ld_of (F.cells.at _ (by exact rfl)) ?_)))
  refine F.stack.len_of ?_
  repeat (first | ((refine lss_of ?_)) | ((refine sub_of (by (omega)) (by (omega)) ?_)))
  rw [hleft]
  refine condLt_of (fun hneg => ?_) (fun hnn => ?_)
  · exact h0R (.inl hneg) _ X
  have hl6 : leftNow p h ≤ (nowC h).stack.length := by omega
  repeat (first | ((refine gtr_of ?_)) | ((refine add_of (by (omega)) (by (omega)) ?_)))
  refine condGt_of (fun hgt => ?_) (fun hle => ?_)
  · exact h0R (.inr (.inl hgt)) _ X
  repeat (first | ((refine nil_of ?_)) | ((refine ld_of (F.cells.at _ (by exact rfl)) ?_)))
  refine sllE_of (q := []) (by kernel_rfl) free_any (F.stack.any (q := [])) hnn hl6 (fun v7 h7 => ?_)
  have ha7 : (nowC h).stack.drop (leftNow p h).toNat = argsNow p h := rfl
  rw [ha7] at h7
  have hal : ((argsNow p h).length : Int) = (takes p op).1 := by unfold argsNow; rw [List.length_drop]; omega
  refine c_clone h7 (by omega) (fun w8 v8 M8 e8 hb8 hl8 h8 => ?_)
  have ha := h8.unOf (q := []) (apart_of (S.lim) hb8)
  replace E := E.ext e8
  have hn8 := Nat.le_trans hn E.size
  replace S := S.ext e8
  replace F := F.ext e8
  replace X := X.trans e8
  clear e8
  replace E := E.drew
  replace S := S.drew
  replace F := F.drew
  replace X := X.drew
  have ha9 : Sl kPair (Un L w8.heap.size) w8.drew [] (argsNow p h) v8 := ha.unExt (Fr.refl _ _).drew
  have T : Mut L w8.drew L w8.drew := Mut.refl S.lim
  clear ha h8 h7 hb8 hl8
  repeat (first | ((refine fad_of ?_)) | ((refine E.ld (by (exact .head _)) (by exact rfl) ?_)))
  refine c_manners (fun w9 b9 e9 hb9 hrow => ?_)
  obtain ⟨⟨sx, uk, fx, hc9, hu9, _, _, _⟩⟩ := hrow w9 (Fr.refl _ _) op.1.toNat (by omega) (by omega)
  have hz8 : w8.heap.size ≤ w8.drew.heap.size := (show Ext w8 w8.drew from (Fr.refl _ _).drew).size
  replace E := E.ext e9
  replace S := S.ext e9
  replace F := F.ext e9
  replace X := X.trans e9
  replace ha9 := ha9.unExt e9
  replace T := T.ext e9
  have hz9 : w8.heap.size ≤ w9.heap.size := Nat.le_trans hz8 e9.size
  clear e9 hrow
  refine ⟨by (repeat (((refine E.ld (by (exact .head _)) (by exact rfl) ?_)))); rfl, ?_⟩
  refine ixaS_of (by omega) (by omega) ?_
  rw [Nat.zero_add]
  (refine fad_of ?_)
  refine ld_of (hc9.at 3 rfl) ?_
  have hkl := kindsT_len (p := p) hk1.1 hk1.2 H.prog
  have hu9' : Sl kInt Any w9 [] (kindsOf op) uk := hu9
  refine hu9'.len_of ?_
  refine loop_of (fun j s wx => wx = w9 ∧ ∃ i : Nat, i + j = (kindsOf op).length ∧ s = [.pointer (some ⟨b, o + 3, none⟩), .slice none 0 0, .bool false, .int .i64 (leftNow p h), v8, uk, .int .i64 (kindsOf op).length, .int .i64 i] ∧ ∀ q : Nat, q < i → intAt (kindsOf op) q = -1 ∨ (pairAt (argsNow p h) q).1 = intAt (kindsOf op) q) ?_ (m := (kindsOf op).length)
    ⟨rfl, 0, by omega, rfl, fun q hq => by omega⟩
  rintro j s wx Kn ⟨rfl, i, hi, rfl, hgood⟩ hKn
  intro _
  simp only [List.headD_cons, List.tail_cons]
  repeat (((refine lss_of ?_)))
  refine condLt_of (fun hlt => ?_) (fun hge => ?_)
  · refine int_ix (i := (i : Int)) hu9' (by omega) (by omega) (fun b5 o5 hc5 => ?_)
    repeat (first | ((refine neq_of ?_)) | ((apply ld_of; (case h => iterate 14 (first | done | assumption)))))
    have next : (intAt (kindsOf op) i = -1 ∨ (pairAt (argsNow p h) i).1 = intAt (kindsOf op) i) → Kn [.pointer (some ⟨b, o + 3, none⟩), .slice none 0 0, .bool false, .int .i64 (leftNow p h), v8, uk, .int .i64 (kindsOf op).length, .int .i64 ((i : Int) + 1)] wx := fun hg =>
      hKn (j - 1) _ _ (by omega) ⟨rfl, i + 1, by omega, rfl, fun q hq => by
        by_cases e : q = i
        · subst e; exact hg
        · exact hgood q (by omega)⟩
    refine condNe_of (fun hne => ?_) (fun heq => ?_)
    · refine pair_ix (i := (i : Int)) (ha9.unAny (q := []) hz9) (by omega) (by omega) (fun b6 o6 hc6 => ?_)
      repeat (first | (first | refine fad_of ?_ | refine neq_of ?_) | ((apply ld_of; (case h => iterate 14 (first | done | exact Cells.at (by assumption) _ (by exact rfl))))))
      refine condNe_of (fun hne2 => ?_) (fun heq2 => ?_)
      · intro _
        refine h0R (.inr (.inr ⟨hnn, ?_⟩)) _ X
        cases hkk : kindsOk op (argsNow p h) with
        | false => rfl
        | true =>
          rcases (kinds_T hk1.1 hk1.2).mp hkk i (by omega) with h9 | h9
          · exact absurd h9 hne
          · exact absurd h9 hne2
      · repeat (((refine add_of (by (omega)) (by (omega)) ?_)))
        exact next (.inr heq2)
    · repeat (((refine add_of (by (omega)) (by (omega)) ?_)))
      exact next (.inl heq)
  · intro _
    have hkk : kindsOk op (argsNow p h) = true := (kinds_T hk1.1 hk1.2).mpr (fun q hq => hgood q (by omega))
    repeat (first | ((refine nil_of ?_)) | ((refine ld_of (F.cells.at _ (by exact rfl)) ?_)))
    refine slrE_of (q := []) (by kernel_rfl) free_any (F.stack.any (q := [])) hnn hl6 (fun v11 h11 => ?_)
    refine c_clone h11 (by rw [List.length_take]; omega) (fun w12 v12 M12 e12 hb12 hl12 h12 => ?_)
    have hs12 := h12.inR (q := [0, h.now.toNat, 3]) (apart_of S.lim hb12)
    replace T := T.trans (Mut.join (q := [0, h.now.toNat, 3]) e12 S.lim hb12 hl12)
    replace E := E.join [0, h.now.toNat, 3] e12 hb12 hl12
    replace ha9 := ha9.unMut (Mut.join (q := [0, h.now.toNat, 3]) e12 S.lim hb12 hl12) hz9
    have hz12 := Nat.le_trans hz9 e12.size
    replace S := (S.ext e12).join (q := [0, h.now.toNat, 3]) hl12
    replace F := (F.ext e12).join (q := [0, h.now.toNat, 3]) (M := M12)
    clear e12
    repeat (((refine nil_of ?_)))
    refine S.st F h0 h1 h12.one (by decide) (c' := { nowC h with stack := (nowC h).stack.take (leftNow p h).toNat }) rfl F.temps hs12 (fun w13 m13 S F => ?_)
    exact h1R (by omega) (by omega) hkk _ _ _ _ _ (E.call m13).mu S F (ha9.unMut m13 hz12) hn8 (Nat.le_trans hz12 m13.size)
end
end Go.PT

/- The program's heap at work: the engine's own functions. -/
set_option linter.unusedVariables false
set_option linter.unusedSimpArgs false
namespace Go.PT
attribute [local irreducible] ldT ldsT stT stsT allocT boxT bldT bslT nilT fadT ixaT fldT extT lenT pickT binT notT cviT opT opU condT clT clvT ivT loopT arT ndT World.cell? World.frozen? World.alloc World.drew World.setCell Blk Cells Sl
def eng (m : Nat) : Value := .iface 188 (.pointer (some ⟨m, 0, none⟩))
section
variable {L : Lab} {w : World} {m n b o : Nat} {u vc vs ut us : Value} {p : Pg} {h : Hp} {R : VW}
theorem i_running (S : SM L w m [] h vc vs) (h0 : 0 ≤ h.now) (h1 : h.now < h.calls.length)
    (hR : ∀ w' b o ut us, Ext w w' → Foc L w' vc h.now (nowC h) b o ut us → R (.tuple #[.int .i64 (nowC h).method, .pointer (some ⟨b, o + 1, none⟩), ut, .pointer (some ⟨b, o + 3, none⟩)]) w') :
    ivT PR (eng m) "loop.example/gemel/impl.running" [] w R := by
  refine iv_of (f := 334) (bs := #[.pointer (some ⟨m, 0, none⟩)]) (by kernel_rfl) ?_
  refine Fimpl_Heap_running.cl ?_
  unfold Fimpl_Heap_running
  replace S := S.drew
  repeat (first | (first | refine fad_of ?_ | refine nil_of ?_) | ((refine ld_of (S.cell (by exact rfl)) ?_)))
  refine S.ix h0 h1 (fun b o ut us F => ?_)
  replace F := F.drew
  repeat (first | (first | refine fad_of ?_ | refine nil_of ?_) | ((refine ld_of (F.cells.at _ (by exact rfl)) ?_)))
  exact hR _ _ _ _ _ (Fr.refl _ _).drew.drew F
theorem i_here (S : SM L w m [] h vc vs) (hR : ∀ w', Ext w w' → R (.agg #[.int .i64 2, .int .i64 h.now]) w') : ivT PR (eng m) "loop.example/gemel/impl.here" [] w R := by
  refine iv_of (f := 331) (bs := #[.pointer (some ⟨m, 0, none⟩)]) (by kernel_rfl) ?_
  refine Fimpl_Heap_here.cl ?_
  unfold Fimpl_Heap_here
  have E := En.start w
  refine E.al (fun b w E e => ?_)
  replace S := S.ext e
  repeat (first | (first | refine fad_of ?_ | refine nil_of ?_) | ((refine ld_of (S.cell (by exact rfl)) ?_)))
  refine c_implCall (fun w e => ?_)
  have E := E.ext e
  refine En.sts' (vs := [.int .i64 2, .int .i64 h.now]) [] rfl E rfl rfl (fun u hu => List.all_eq_true.mp rfl u hu) (fun w E _ => ?_)
  repeat (((refine E.lds (by (exact .head _)) (by exact rfl) ?_)))
  exact hR _ E.toExt
theorem i_full (S : SM L w m [] h vc vs) (hR : R (.bool (decide (h.born = 30))) w) : ivT PR (eng m) "loop.example/gemel/impl.full" [] w R := by
  refine iv_of (f := 330) (bs := #[.pointer (some ⟨m, 0, none⟩)]) (by kernel_rfl) ?_
  refine Fimpl_Heap_full.cl ?_
  unfold Fimpl_Heap_full
  repeat (first | (first | refine fad_of ?_ | refine nil_of ?_ | refine eql_of ?_) | ((refine ld_of (S.cell (by exact rfl)) ?_)))
  exact hR
theorem i_sender {i : Int} (S : SM L w m [] h vc vs) (h0 : 0 ≤ i) (h1 : i < h.calls.length) (hR : ∀ w' (v : V), Ext w w' → v = (if (callAt h.calls i).sender ≥ 0 then (2, (callAt h.calls i).sender) else (0, 0)) → R (.agg #[.int .i64 v.1, .int .i64 v.2]) w') :
    ivT PR (eng m) "loop.example/gemel/impl.sender" [.int .i64 i] w R := by
  refine iv_of (f := 336) (bs := #[.pointer (some ⟨m, 0, none⟩), .int .i64 i]) (by kernel_rfl) ?_
  refine Fimpl_Heap_sender.cl ?_
  unfold Fimpl_Heap_sender
  have E := En.start w
  refine E.al (fun b w E e => ?_)
  replace S := S.ext e
  repeat (first | (first | refine fad_of ?_ | refine nil_of ?_) | ((refine ld_of (S.cell (by exact rfl)) ?_)))
  refine S.ix h0 h1 (fun b o ut us F => ?_)
  repeat (first | (first | refine fad_of ?_ | refine lss_of ?_) | ((refine ld_of (F.cells.at _ (by exact rfl)) ?_)))
  refine condLt_of (fun hneg => ?_) (fun hpos => ?_)
  · refine bld_of (cs := #[.int .i64 0, .int .i64 0]) rfl ?_
    refine En.sts' (vs := [.int .i64 0, .int .i64 0]) [] rfl E rfl rfl (fun u hu => List.all_eq_true.mp rfl u hu) (fun w E _ => ?_)
    repeat (((refine E.lds (by (exact .head _)) (by exact rfl) ?_)))
    exact hR _ (0, 0) E.toExt (by rw [if_neg (by omega)])
  · repeat (first | (first | refine fad_of ?_ | refine nil_of ?_) | ((refine ld_of (S.cell (by exact rfl)) ?_)))
    clear F
    refine S.ix h0 h1 (fun b o ut us F => ?_)
    repeat (first | ((refine fad_of ?_)) | ((refine ld_of (F.cells.at _ (by exact rfl)) ?_)))
    refine c_implCall (fun w e => ?_)
    have E := E.ext e
    refine En.sts' (vs := [.int .i64 2, .int .i64 (callAt h.calls i).sender]) [] rfl E rfl rfl (fun u hu => List.all_eq_true.mp rfl u hu) (fun w E _ => ?_)
    repeat (((refine E.lds (by (exact .head _)) (by exact rfl) ?_)))
    exact hR _ (2, (callAt h.calls i).sender) E.toExt (by rw [if_pos (by omega)])
theorem i_looked {i : Int} (S : SM L w m [] h vc vs) (h0 : 0 ≤ i) (h1 : i < h.calls.length)
    (hR : ∀ w' b o ut us, Ext w w' → Foc L w' vc i (callAt h.calls i) b o ut us → R (.tuple #[.int .i64 (callAt h.calls i).method, .int .i64 (callAt h.calls i).pc, ut, .bool (callAt h.calls i).dead]) w') :
    ivT PR (eng m) "loop.example/gemel/impl.looked" [.int .i64 i] w R := by
  refine iv_of (f := 333) (bs := #[.pointer (some ⟨m, 0, none⟩), .int .i64 i]) (by kernel_rfl) ?_
  refine Fimpl_Heap_looked.cl ?_
  unfold Fimpl_Heap_looked
  have E := En.start w
  repeat (first | (first | refine fad_of ?_ | refine nil_of ?_) | ((refine ld_of (S.cell (by exact rfl)) ?_)))
  refine S.ix h0 h1 (fun b o ut us F => ?_)
  repeat (((refine lds_of F.cells (by exact rfl) ?_)))
  refine E.als (vs := cellsC (callAt h.calls i) ut us) rfl rfl rfl (by intro x hx; simp only [cellsC, List.mem_cons, List.not_mem_nil, or_false] at hx; rcases hx with h | h | h | h | h | h <;> rw [h] <;> first | rfl | exact F.temps.one | exact F.stack.one) (fun b5 w5 E e5 => ?_)
  replace E := E.drew
  replace F := (F.ext e5).drew
  repeat (first | ((refine fad_of ?_)) | ((refine E.ld (by (exact .head _)) (by exact rfl) ?_)))
  exact hR _ _ _ _ _ E.toExt F
theorem i_enter {k : Int} {args : List V} {ua : Value} (S : SM L w m [] h vc vs) (hp : Sl kMeth (Un L n) w [] p u) (hn : n ≤ w.heap.size) (ha : Sl kPair (Un L n) w [] args ua)
    (k0 : 0 ≤ k) (k1 : k < p.length) (hl : (args.length : Int) ≤ (methAt p k).temps) (ht : (methAt p k).temps ≤ 1000000) (hcl : h.calls.length ≤ 1000000) (hb0 : 0 ≤ h.born) (hb : h.born < 30)
    (hR : ∀ w' L' vc', Mut L w L' w' → SM L' w' m [] (callH p h k args) vc' vs → R (.tuple #[]) w') : ivT PR (eng m) "loop.example/gemel/impl.enter" [.agg #[u], .int .i64 k, ua] w R := by
  refine iv_of (f := 329) (bs := #[.pointer (some ⟨m, 0, none⟩), .agg #[u], .int .i64 k, ua]) (by kernel_rfl) ?_
  refine Fimpl_Heap_enter.cl ?_
  unfold Fimpl_Heap_enter
  have E := En.init S.lim
  refine E.box (fun b1 w1 E e1 => ?_)
  replace S := S.ext e1
  replace E := E.drew
  replace S := S.drew
  repeat (first | (first | refine fad_of ?_ | refine nil_of ?_) | (first | refine E.lds (by (exact .head _)) (by exact rfl) ?_ | refine ld_of (S.cell (by exact rfl)) ?_))
  refine c_newCall (E.unAny hp hn) (E.unAny (q := []) ha hn) k0 k1 hl ht (fun w2 M ut e2 hbM hlM ht2 => ?_)
  have hap := apart_of S.lim hbM
  have ht3 := ht2.inR (q := [0, h.calls.length]) hap
  replace E := E.join [0, h.calls.length] e2 hbM hlM
  replace S := (S.ext e2).join (q := [0, h.calls.length]) hlM
  refine ⟨by (repeat (((refine ld_of (S.cell (by exact rfl)) ?_)))); rfl, ?_⟩
  refine E.bsl rfl rfl rfl (fun b3 w3 E e3 => ?_)
  replace S := S.ext e3
  refine ⟨by (repeat (((refine ld_of (S.cell (by exact rfl)) ?_)))); rfl, ?_⟩
  refine S.appCall (c' := newC p k args h.now) (by kernel_rfl) (E.blk (.head _)) (ht3.keepX e3) Sl.none0 rfl (by omega) (fun v' w4 L4 m4 S hcs => ?_)
  replace E := E.call m4
  repeat ((first | refine fad_of ?_ | refine nil_of ?_))
  refine S.stM hcs.one (by simp) (h' := { h with calls := h.calls ++ [newC p k args h.now] }) rfl hcs S.said (fun w5 m5 _ S => ?_)
  replace E := E.call m5
  repeat (first | (first | refine fad_of ?_ | refine nil_of ?_) | ((refine sub_of (by (omega)) (by (simp only [List.length_append, List.length_cons, List.length_nil]; omega)) ?_)) | ((refine ld_of (S.cell (by exact rfl)) ?_)) | (refine Sl.len_of (by assumption) ?_))
  refine S.stM rfl (by simp) (h' := { h with calls := h.calls ++ [newC p k args h.now], now := h.calls.length }) (vc' := v') (vs' := vs) (by simp) S.calls S.said (fun w6 m6 _ S => ?_)
  replace E := E.call m6
  repeat (first | (first | refine fad_of ?_ | refine nil_of ?_) | ((refine add_of (by (dsimp only; omega)) (by (dsimp only; omega)) ?_)) | ((refine ld_of (S.cell (by exact rfl)) ?_)))
  have hC : callH p h k args = { h with calls := h.calls ++ [newC p k args h.now], now := h.calls.length, born := h.born + 1 } := by
    unfold callH; rw [if_neg (by omega)]
  rw [hC] at hR
  refine S.stM rfl (by simp) (h' := { h with calls := h.calls ++ [newC p k args h.now], now := h.calls.length, born := h.born + 1 }) (vc' := v') (vs' := vs) rfl S.calls S.said (fun w7 m7 _ S => ?_)
  exact hR _ _ _ (E.call m7).mu S
theorem c_leave (S : SM L w m [] h vc vs) (h0 : 0 ≤ h.now) (h1 : h.now < h.calls.length) (hR : ∀ w', Mut L w L w' → SM L w' m [] (leaveH h) vc vs → R (.bool (decide ((leaveH h).now ≥ 0))) w') : clT PR 332 [.pointer (some ⟨m, 0, none⟩)] w R := by
  refine Fimpl_Heap_leave.cl ?_
  unfold Fimpl_Heap_leave
  have E := (En.init S.lim).drew
  replace S := S.drew
  repeat (first | (first | refine fad_of ?_ | refine nil_of ?_) | ((refine ld_of (S.cell (by exact rfl)) ?_)))
  refine S.ix h0 h1 (fun b o ut us F => ?_)
  repeat (first | (first | refine fad_of ?_ | refine nil_of ?_) | ((refine ld_of (F.cells.at _ (by exact rfl)) ?_)))
  refine S.stM rfl (by simp) (h' := { h with now := (nowC h).sender }) rfl S.calls S.said (fun w1 m1 f1 S => ?_)
  replace E := E.call m1
  replace F := F.mach S.lab f1
  repeat ((first | refine fad_of ?_ | refine nil_of ?_))
  refine S.st F h0 h1 rfl (by decide) (c' := { nowC h with dead := true }) rfl F.temps F.stack (fun w2 m2 S F => ?_)
  replace E := E.call m2
  repeat ((first | refine fad_of ?_ | refine nil_of ?_))
  refine S.st F h0 (by rw [putC_len]; exact h1) rfl (by decide) (c' := { nowC h with dead := true, stack := [] }) rfl F.temps Sl.none0 (fun w3 m3 S F => ?_)
  replace E := E.call m3
  repeat ((first | refine fad_of ?_ | refine nil_of ?_))
  refine S.st F h0 (by rw [putC_len, putC_len]; exact h1) rfl (by decide) (c' := dieC (nowC h)) rfl F.temps Sl.none0 (fun w4 m4 S F => ?_)
  replace E := E.call m4
  have e : putC (putC (putC { h with now := (nowC h).sender } h.now { nowC h with dead := true }) h.now { nowC h with dead := true, stack := [] }) h.now (dieC (nowC h)) = leaveH h := by
    unfold leaveH dieH putC; simp [List.set_set]; rfl
  rw [e] at S
  repeat (first | (first | refine fad_of ?_ | refine nil_of ?_ | refine geq_of ?_) | ((refine ld_of (S.cell (by exact rfl)) ?_)))
  exact hR _ E.mu S
theorem i_leave (S : SM L w m [] h vc vs) (h0 : 0 ≤ h.now) (h1 : h.now < h.calls.length) (hR : ∀ w', Mut L w L w' → SM L w' m [] (leaveH h) vc vs → R (.bool (decide ((leaveH h).now ≥ 0))) w') : ivT PR (eng m) "loop.example/gemel/impl.leave" [] w R :=
  iv_of (f := 332) (bs := #[.pointer (some ⟨m, 0, none⟩)]) (by kernel_rfl) (c_leave S h0 h1 hR)
theorem i_upTo {to : Int} (S : SM L w m [] h vc vs) (H : HOK p h) (hr : h.code = 0) (t0 : 0 ≤ to) (t1 : to < h.calls.length) (hd : (callAt h.calls to).dead = false)
    (hR : ∀ w', Mut L w L w' → SM L w' m [] (backL h.calls.length h to) vc vs → R (.tuple #[]) w') : ivT PR (eng m) "loop.example/gemel/impl.upTo" [.int .i64 to] w R := by
  refine iv_of (f := 337) (bs := #[.pointer (some ⟨m, 0, none⟩), .int .i64 to]) (by kernel_rfl) ?_
  refine Fimpl_Heap_upTo.cl ?_
  unfold Fimpl_Heap_upTo
  obtain ⟨l, hw, hcov, hroom⟩ := H.way
  have hin := hcov to t0 t1 hd
  refine loop_of (fun n s wx => ∃ (g : Hp) (l : List Int), s = [.pointer (some ⟨m, 0, none⟩), .int .i64 to] ∧ Mut L w L wx ∧ SM L wx m [] g vc vs ∧ HOK p g ∧ g.code = 0 ∧ Way g.calls g.now l ∧ to ∈ l ∧ l.length = n ∧ g.calls.length = h.calls.length ∧ backL h.calls.length g to = backL h.calls.length h to) ?_ (m := l.length)
    ⟨h, l, rfl, Mut.refl S.lim, S, H, hr, hw, hin, rfl, rfl, rfl⟩
  clear hroom hcov hin S
  rintro n s wx Kn ⟨g, l, rfl, T, S, G, gr, gw, gin, hn, gl, gb⟩ hKn
  intro _
  simp only [List.headD_cons, List.tail_cons]
  have g0 := G.now0 gr
  have g1 := G.now2
  repeat (first | (first | refine fad_of ?_ | refine nil_of ?_ | refine neq_of ?_) | ((refine ld_of (S.cell (by exact rfl)) ?_)))
  refine condNe_of (fun hne => ?_) (fun heq => ?_)
  · refine c_leave S g0 g1 (fun w5 m5 S => ?_)
    have hgw := leave_way gw g0
    have hl1 := gw.len
    cases l with
    | nil => simp at gin
    | cons x l =>
      have gin' : to ∈ l := by
        rcases List.mem_cons.mp gin with h1 | h1
        · exact absurd (gw.1.trans h1.symm) hne
        · exact h1
      have hgw : Way (leaveH g).calls (leaveH g).now l := hgw
      have hs : 0 ≤ (nowC g).sender := by
        rcases Int.lt_or_le (nowC g).sender 0 with hneg | hpos
        · have e : l = [] := hgw.det (m := []) hneg
          rw [e] at gin'; simp at gin'
        · exact hpos
      obtain ⟨G', _⟩ := G.leave gr hs
      refine hKn l.length _ _ (by rw [← hn]; simp) ⟨leaveH g, l, rfl, T.trans m5, S, G', gr, hgw, gin', rfl, leave_len.trans gl, ?_⟩
      have hl2 := hgw.len
      rw [leave_len, gl] at hl2
      rw [← gb, List.length_cons, gl] at *
      cases hN : h.calls.length with
      | zero => rw [hN] at hl2; have := List.length_pos_of_mem gin'; omega
      | succ N =>
        rw [hN] at hl1 hl2
        conv => rhs; unfold backL
        rw [if_neg hne]
        exact backL_more l (N + 1) N _ hgw gin' (by omega) (by omega)
  · intro _
    have e : backL h.calls.length g to = g := by cases h.calls.length <;> simp [backL, heq]
    rw [e] at gb
    exact hR _ T (gb ▸ S)
theorem i_say {v : V} (S : SM L w m [] h vc vs) (hr : h.said.length + 1 ≤ 1073741824) (hR : ∀ w' L' vs', Mut L w L' w' → SM L' w' m [] { h with said := h.said ++ [v] } vc vs' → R (.tuple #[]) w') :
    ivT PR (eng m) "loop.example/gemel/impl.say" [.agg #[.int .i64 v.1, .int .i64 v.2]] w R := by
  refine iv_of (f := 335) (bs := #[.pointer (some ⟨m, 0, none⟩), .agg #[.int .i64 v.1, .int .i64 v.2]]) (by kernel_rfl) ?_
  refine Fimpl_Heap_say.cl ?_
  unfold Fimpl_Heap_say
  have E := En.init S.lim
  refine E.box (fun b1 w1 E e1 => ?_)
  replace S := S.ext e1
  replace E := E.drew
  replace S := S.drew
  repeat (first | (first | refine fad_of ?_ | refine nil_of ?_) | (first | refine E.lds (by (exact .head _)) (by exact rfl) ?_ | refine ld_of (S.cell (by exact rfl)) ?_))
  refine E.bsl rfl rfl rfl (fun b3 w3 E e3 => ?_)
  replace S := S.ext e3
  refine ⟨by (repeat (((refine ld_of (S.cell (by exact rfl)) ?_)))); rfl, ?_⟩
  refine S.appSaid (v := v) (by kernel_rfl) (E.blk (.head _)) rfl hr (fun v' w' L' m' S hs => ?_)
  replace E := E.call m'
  repeat ((first | refine fad_of ?_ | refine nil_of ?_))
  refine S.stM hs.one (by simp) (h' := { h with said := h.said ++ [v] }) rfl S.calls hs (fun w4 m4 _ S => ?_)
  exact hR _ _ _ (E.call m4).mu S
theorem c_push {v : V} (S : SM L w m [] h vc vs) (h0 : 0 ≤ h.now) (h1 : h.now < h.calls.length) (hr : (nowC h).stack.length + 1 ≤ 1073741824) (hR : ∀ w' L', Mut L w L' w' → SM L' w' m [] (pushH h v) vc vs → R (.tuple #[]) w') :
    clT PR 223 [eng m, .agg #[.int .i64 v.1, .int .i64 v.2]] w R := by
  refine Fimpl_push.cl ?_
  unfold Fimpl_push
  have E := En.init S.lim
  refine E.box (fun b1 w1 E e1 => ?_)
  replace S := S.ext e1
  refine i_running S h0 h1 (fun w2 b o ut us e2 F => ?_)
  replace E := (E.ext e2).drew
  replace S := (S.ext e2).drew
  replace F := F.drew
  refine ext_of rfl ?_
  refine ext_of rfl ?_
  refine ext_of rfl ?_
  refine ext_of rfl ?_
  repeat (first | ((refine nil_of ?_)) | (first | refine E.lds (by (exact .head _)) (by exact rfl) ?_ | refine ld_of (F.cells.at _ (by exact rfl)) ?_))
  refine E.bsl rfl rfl rfl (fun b3 w3 E e3 => ?_)
  replace S := S.ext e3
  replace F := F.ext e3
  refine ⟨by (repeat (((refine ld_of (F.cells.at _ (by exact rfl)) ?_)))); rfl, ?_⟩
  refine S.app1 (v := v) (by kernel_rfl) F h0 h1 rfl (E.blk (.head _)) rfl hr (fun v' w' L' m' S F hs => ?_)
  replace E := E.call m'
  repeat (((refine nil_of ?_)))
  refine S.st F h0 h1 hs.one (by decide) (c' := pushC (nowC h) v) rfl F.temps hs (fun w2 m2 S F => ?_)
  exact hR _ _ (E.call m2).mu S
theorem c_sayIt {v : V} (S : SM L w m [] h vc vs) (hv : v.1 = 2 → 0 ≤ v.2 ∧ v.2 < h.calls.length) (hr : h.said.length + 1 ≤ 1073741824) (hR : ∀ w' L' vs', Mut L w L' w' → SM L' w' m [] (sayH h v) vc vs' → R (.tuple #[]) w') :
    clT PR 226 [eng m, .agg #[.int .i64 v.1, .int .i64 v.2]] w R := by
  refine Fimpl_sayIt.cl ?_
  unfold Fimpl_sayIt
  have E := En.init S.lim
  refine E.box (fun b1 w1 E e1 => ?_)
  replace S := S.ext e1
  repeat (first | (first | refine fad_of ?_ | refine eql_of ?_) | ((refine E.ld (by (exact .head _)) (by exact rfl) ?_)))
  refine condP_of (fun h2 => ?_) (fun h2 => ?_)
  · obtain ⟨v0, v1⟩ := hv h2
    repeat (first | ((refine fad_of ?_)) | ((refine E.ld (by (exact .head _)) (by exact rfl) ?_)))
    refine i_looked S v0 v1 (fun w2 b o ut us e2 F => ?_)
    replace E := E.ext e2
    replace S := S.ext e2
    refine ext_of rfl ?_
    refine ext_of rfl ?_
    refine ext_of rfl ?_
    refine ext_of rfl ?_
    repeat (((refine fad_of ?_)))
    refine En.st' [] E (show 1 < 2 by decide) rfl (fun w3 E e3 => ?_)
    replace S := S.loc e3
    refine E.lds (.head _) rfl ?_
    refine i_say (v := (v.1, (callAt h.calls v.2).method)) S hr (fun w4 L4 vs4 m4 S => ?_)
    refine hR _ _ vs4 (E.call m4).mu ?_
    unfold sayH saidV
    rw [if_pos h2]
    exact S
  · repeat (((refine E.lds (by (exact .head _)) (by exact rfl) ?_)))
    refine i_say (v := v) S hr (fun w4 L4 vs4 m4 S => ?_)
    refine hR _ _ vs4 (E.call m4).mu ?_
    unfold sayH saidV
    rw [if_neg h2]
    exact S
end
end Go.PT
