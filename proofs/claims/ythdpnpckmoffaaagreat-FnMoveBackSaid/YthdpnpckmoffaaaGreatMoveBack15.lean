/- What the claim of FnMoveBack leans on, part 16 of 16. -/
import Derived.Test.YthdpnpckmoffaaaGreatMoveBack00
import Derived.Test.YthdpnpckmoffaaaGreatMoveBack01
import Derived.Test.YthdpnpckmoffaaaGreatMoveBack02
import Derived.Test.YthdpnpckmoffaaaGreatMoveBack03
import Derived.Test.YthdpnpckmoffaaaGreatMoveBack04
import Derived.Test.YthdpnpckmoffaaaGreatMoveBack05
import Derived.Test.YthdpnpckmoffaaaGreatMoveBack06
import Derived.Test.YthdpnpckmoffaaaGreatMoveBack07
import Derived.Test.YthdpnpckmoffaaaGreatMoveBack08
import Derived.Test.YthdpnpckmoffaaaGreatMoveBack09
import Derived.Test.YthdpnpckmoffaaaGreatMoveBack10
import Derived.Test.YthdpnpckmoffaaaGreatMoveBack11
import Derived.Test.YthdpnpckmoffaaaGreatMoveBack12
import Derived.Test.YthdpnpckmoffaaaGreatMoveBack13
import Derived.Test.YthdpnpckmoffaaaGreatMoveBack14
set_option linter.unusedVariables false
set_option linter.unusedSimpArgs false
set_option linter.unusedSectionVars false
set_option maxRecDepth 100000
namespace Go.PT
attribute [local irreducible] ldT ldsT stT stsT allocT boxT bldT bslT nilT fadT ixaT fldT extT lenT pickT binT notT cviT opT opU condT clT clvT ivT loopT arT ndT World.cell? World.frozen? World.alloc World.drew World.setCell Blk Cells Sl
section
variable {p : Pg} {m : Mc} {h : Hp} {w : World} {up uo ut us uc : Value} {R : VW}
theorem view_small (M : MOK p m) : (viewM m).length ≤ 54 ∧ ∀ c ∈ viewM m, c.temps.length ≤ 10 ∧ c.stack.length ≤ 10 := by
  have hF := found_len M.fin (allS m).length
  have hal := M.allS_len
  refine ⟨?_, fun c hc => ?_⟩
  · unfold viewM view
    rw [List.length_map]
    exact Nat.le_trans hF.2.2 hal
  · unfold viewM view at hc
    obtain ⟨s, hs, rfl⟩ := List.mem_map.mp hc
    have N := M.gok.nd s ((mem_allS M.wf).mp (hF.2.1 s hs))
    have hm := methOk_iff.mp (prog_meth M.prog N.m0 N.m1)
    have h1 := N.temps
    have h2 := N.stack
    have h3 := hm.t1
    unfold seen
    simp only [List.length_map]
    omega
theorem out_start (M : MOK p m) : min ((viewM m).length : Int) 1 - 1 = min m.now 0 := by
  have h1 := M.now1
  by_cases hn : m.now < 0
  · have : viewM m = [] := by unfold viewM view found; rw [show (GM m).now = none from M.topSp.mpr hn]; rfl
    rw [this]
    simp; omega
  · cases ht : Go.PT.topSp m with
    | none => exact absurd (M.topSp.mp ht) hn
    | some s =>
      have e := found_head (g := GM m) (n := (allS m).length) (a := s) ht
      have hl : (viewM m).length = (found (GM m) (allS m).length).length := by unfold viewM view; rw [List.length_map]
      have := (List.getElem?_eq_some_iff.mp e).1
      omega
def outR (p : Pg) (m : Mc) (ok : Bool) : Hp × Bool := if ok = true then (outM m, true) else (hp0, false)
theorem c_moveOut {u : Value} (hp : Sl kMeth Any w [] p u) (hpl : p.length ≤ 1073741824) (hml : ∀ m ∈ p, m.ops.length ≤ 1073741824) (hV : MachV w m up uo ut us) (B : MB m)
    (hR : ∀ w' ok uc' us', Ext w w' → (ok = true ↔ MOK p m) → HeapV w' (outR p m ok).1 uc' us' → R (.tuple #[.agg (heapCells (outR p m ok).1 uc' us').toArray, .bool ok]) w') :
    clT PR 42 [.agg #[u], .agg (machCells m up uo ut us).toArray] w R := by
  refine Fimpl_MoveOut.cl ?_
  unfold Fimpl_MoveOut
  have hBs := B.ns
  have E := En.start w
  refine E.box (fun b1 w1 E _ => ?_)
  refine E.box (fun b2 w2 E _ => ?_)
  refine E.al (fun b3 w3 E _ => ?_)
  refine E.lds (.tail _ (.tail _ (.head _))) rfl ?_
  refine E.lds (.tail _ (.head _)) rfl ?_
  refine c_machOk (hp.ext E.toExt) hpl hml (hV.ext E.toExt) B (fun w4 ok e4 hok => ?_)
  replace E := E.ext e4
  (refine not_of ?_)
  refine condN_of (fun hf => ?_) (fun ht => ?_)
  · refine bld_of (cs := #[.slice none 0 0, .int .i64 0, .int .i64 0, .slice none 0 0, .int .i64 0]) rfl ?_
    refine En.sts' (vs := [.slice none 0 0, .int .i64 0, .int .i64 0, .slice none 0 0, .int .i64 0]) [] rfl E rfl rfl (fun u hu => List.all_eq_true.mp rfl u hu) (fun w5 E e5 => ?_)
    refine E.lds (.head _) rfl ?_
    exact hR _ false (.slice none 0 0) (.slice none 0 0) E.toExt (by rw [← hf]; exact hok) ⟨Sl.none0, Sl.none0, Nat.zero_le _, fun c hc => (by cases hc), Nat.zero_le _⟩
  · have M := hok.mp ht
    obtain ⟨k1, k2⟩ := view_small M
    have l4 : b3 < w4.heap.size := (E.blk (b := b3) (.head _)).lt
    refine E.lds (.tail _ (.head _)) rfl ?_
    refine c_machView M (hV.ext E.toExt) B (fun w5 v e5 hv => ?_)
    replace E := (E.ext e5).drew
    have z5 := e5.size
    (refine fad_of ?_)
    refine E.ld (.tail _ (.head _)) rfl ?_
    (refine fad_of ?_)
    refine E.ld (.tail _ (.head _)) rfl ?_
    (refine fad_of ?_)
    refine E.ld (.tail _ (.head _)) rfl ?_
    replace hv := hv.betExt (Fr.refl _ _).drew
    refine Fimpl_start.cl ?_
    unfold Fimpl_start
    refine hv.len_of ?_
    refine min_of ?_
    (refine sub_of (by (omega)) (by (omega)) ?_)
    rw [out_start M]
    refine ⟨E.ld (.tail _ (.head _)) rfl rfl, ?_⟩
    refine ⟨E.ld (.tail _ (.head _)) rfl rfl, ?_⟩
    refine ⟨E.ld (.tail _ (.head _)) rfl rfl, ?_⟩
    refine c_clone (E.any (q := []) hV.said) (by omega) (fun w6 vs M6 e6 hb6 hl6 hs6 => ?_)
    replace E := E.ext e6
    replace hv := hv.betExt e6
    have z6 := e6.size
    refine ⟨E.ld (.tail _ (.head _)) rfl rfl, ?_⟩
    refine ⟨E.ld (.tail _ (.head _)) rfl rfl, ?_⟩
    obtain ⟨A1, c1, rfl⟩ := hv.is
    obtain ⟨A2, c2, rfl⟩ := hs6.is
    refine bld_of (cs := #[.slice A1 (viewM m).length c1, .int .i64 (min m.now 0), .int .i64 m.born, .slice A2 m.said.length c2, .int .i64 m.code]) rfl ?_
    refine En.sts' (vs := heapCells (outM m) (.slice A1 (viewM m).length c1) (.slice A2 m.said.length c2)) [] rfl E rfl rfl (fun u hu => List.all_eq_true.mp rfl u hu) (fun w7 E e7 => ?_)
    refine E.lds (.head _) rfl ?_
    have hM : M6 b3 = none := by
      cases h9 : M6 b3 with
      | none => rfl
      | some q => have := hb6 b3 q h9; have := (Fr.refl No w5).drew.size; omega
    have hv7 := hv.betSet e7.fr (.inl ⟨Nat.zero_le _, l4⟩) (Nat.zero_le _) z5
    have hs7 := hs6.loc ⟨e7.fr, hM⟩
    exact hR _ true _ _ E.toExt ⟨fun _ => M, fun _ => rfl⟩ ⟨hv7.betAny, hs7.any, by show (viewM m).length ≤ _; omega, fun c hc => by have := k2 c hc; omega, by show m.said.length ≤ _; omega⟩
end
end Go.PT
namespace Go.PT
open Go.Proofs
def Fspec_MoveIn.l1 (x4 x5 x8 x9 x10 x12 : Value) (w : World) (Kn Kb Kr : LW) : Prop := ∀ _ : Env,
  fadT 0 x5 fun t47 =>
  ldT t47 w fun t48 =>
  lenT t48 fun t49 =>
  binT .lss x12 t49 fun t50 =>
  condT t50
  (fadT 4 x10 fun t53 =>
  ldT t53 (w.drew) fun t54 =>
  fadT 0 x5 fun t55 =>
  ldT t55 (w.drew) fun t56 =>
  ixaT 6 t56 x12 fun t58 =>
  ldsT 6 t58 (w.drew) fun t59 =>
  clT PR 93 [t59] (w.drew) fun t60 w19 =>
  (ldT t53 w19 fun u => u = t54) ∧
  bldT #[(.int .i64 0), (.int .i64 0), (.int .i64 0), (.int .i64 0), (.slice none 0 0), (.slice none 0 0), (.int .i64 0), (.bool false)] [(0, 1, (.int .i64 (-1))), (2, 6, t60)] fun t61 =>
  bslT 91 1 8 #[(.int .i64 0), (.int .i64 0), (.int .i64 0), (.int .i64 0), (.slice none 0 0), (.slice none 0 0), (.int .i64 0), (.bool false)] [(0, 8, t61)] w19 fun t62 w20 =>
  (ldT t53 w20 fun u => u = t54) ∧
  opT PR (Builtin.append_ #[34, 34] 34 #[t54, t62]) w20 fun t63 w21 =>
  fadT 4 x10 fun t64 =>
  stT t64 t63 w21 fun w22 =>
  binT .add x12 (.int .i64 1) fun t52 =>
  Kn [x4, x5, x8, x9, x10, t52] w22)
  (Kb [x4, x5, x8, x9, x10, x12] w)
def Fspec_MoveIn.k2 (x4 x5 x8 x9 x10 x12 : Value) (w : World) (R : VW) : Prop := ∀ _ : Env,
  ldsT 1 x4 w fun t65 =>
  ldsT 8 x10 w fun t66 =>
  bldT #[(.slice none 0 0), (.int .i64 0), (.slice none 0 0), (.slice none 0 0), (.int .i64 0), (.slice none 0 0), (.int .i64 0), (.slice none 0 0), (.int .i64 0)] [(0, 1, t65), (1, 8, t66)] fun t67 =>
  boxT 120 t67 w fun t68 w23 =>
  fadT 1 x5 fun t69 =>
  ldT t69 w23 fun t70 =>
  binT .lss t70 (.int .i64 0) fun t71 =>
  condT t71
  (nilT PR t68 fun t73 =>
  fadT 1 t73 fun t74 =>
  fadT 3 t74 fun t75 =>
  stT t75 (.int .i64 (-1)) w23 fun w24 =>
  nilT PR t68 fun t77 =>
  fadT 1 t77 fun t78 =>
  ldsT 8 t78 w24 fun t79 =>
  stsT 8 x8 t79 w24 fun w25 =>
  ldsT 8 x8 w25 fun r26 =>
  R (.tuple #[r26, (.bool true)]) w25)
  (fadT 1 x5 fun t81 =>
  ldT t81 w23 fun t82 =>
  clT PR 94 [t68, t82, (.int .i64 0)] w23 fun t83 w27 =>
  nilT PR t68 fun t85 =>
  fadT 1 t85 fun t86 =>
  ldsT 8 t86 w27 fun t87 =>
  stsT 8 x8 t87 w27 fun w28 =>
  ldsT 8 x8 w28 fun r29 =>
  R (.tuple #[r29, (.bool true)]) w28)
def Fspec_MoveIn.r3 (x4 x5 x8 x9 x10 x12 : Value) (w : World) (R : VW) : Prop := ∀ _ : Env,
  ldsT 8 x8 w fun r30 =>
  R (.tuple #[r30, x9]) w
def Fspec_MoveIn (t0 t1 t2 t3 : Value) (w : World) (R : VW) : Prop :=
  boxT 42 t0 w fun t4 w1 =>
  boxT 57 t1 w1 fun t5 w2 =>
  allocT 37 #[(.int .i64 0), (.slice none 0 0), (.slice none 0 0), (.int .i64 0), (.slice none 0 0), (.int .i64 0), (.slice none 0 0), (.int .i64 0)] w2 fun t8 w3 =>
  ldsT 1 t4 w3 fun t15 =>
  clT PR 47 [t15, t2, t3] w3 fun t18 w4 =>
  extT t18 0 fun t19 =>
  extT t18 1 fun t20 =>
  allocT 37 #[(.int .i64 0), (.slice none 0 0), (.slice none 0 0), (.int .i64 0), (.slice none 0 0), (.int .i64 0), (.slice none 0 0), (.int .i64 0)] w4 fun t10 w5 =>
  stsT 8 t10 t19 w5 fun w6 =>
  ldsT 1 t4 w6 fun t21 =>
  ldsT 5 t5 w6 fun t22 =>
  clT PR 92 [t21, t22] w6 fun t23 w7 =>
  notT t23 fun t24 =>
  condT t24
  (bldT #[(.int .i64 0), (.slice none 0 0), (.slice none 0 0), (.int .i64 0), (.slice none 0 0), (.int .i64 0), (.slice none 0 0), (.int .i64 0)] [] fun t29 =>
  stsT 8 t8 t29 w7 fun w8 =>
  ldsT 8 t8 w8 fun r9 =>
  R (.tuple #[r9, (.bool false)]) w8)
  (notT t20 fun t27 =>
  condT t27
  (bldT #[(.int .i64 0), (.slice none 0 0), (.slice none 0 0), (.int .i64 0), (.slice none 0 0), (.int .i64 0), (.slice none 0 0), (.int .i64 0)] [] fun t29 =>
  stsT 8 t8 t29 w7 fun w10 =>
  ldsT 8 t8 w10 fun r11 =>
  R (.tuple #[r11, (.bool false)]) w10)
  (fadT 1 t10 fun t30 =>
  ldT t30 w7 fun t31 =>
  bslT 162 0 5 #[] [] w7 fun t32 w12 =>
  ixaT 2 t31 (.int .i64 0) fun t33 =>
  fadT 1 t33 fun t34 =>
  stT t34 t32 w12 fun w13 =>
  fadT 2 t5 fun t35 =>
  ldT t35 w13 fun t36 =>
  fadT 5 t10 fun t37 =>
  stT t37 t36 w13 fun w14 =>
  bslT 127 0 2 #[] [] w14 fun t38 w15 =>
  fadT 3 t5 fun t39 =>
  ldT t39 w15 fun t40 =>
  opT PR (Builtin.append_ #[35, 35] 35 #[t38, t40]) w15 fun t41 w16 =>
  fadT 6 t10 fun t42 =>
  stT t42 t41 w16 fun w17 =>
  fadT 4 t5 fun t43 =>
  ldT t43 w17 fun t44 =>
  fadT 7 t10 fun t45 =>
  stT t45 t44 w17 fun w18 =>
  loopT (fun s w Kn Kb Kr => Fspec_MoveIn.l1 (s.headD undef) (s.tail.headD undef) (s.tail.tail.headD undef) (s.tail.tail.tail.headD undef) (s.tail.tail.tail.tail.headD undef) (s.tail.tail.tail.tail.tail.headD undef) w Kn Kb Kr) [t4, t5, t8, (.bool false), t10, (.int .i64 0)] w18
  (fun s w => Fspec_MoveIn.k2 (s.headD undef) (s.tail.headD undef) (s.tail.tail.headD undef) (s.tail.tail.tail.headD undef) (s.tail.tail.tail.tail.headD undef) (s.tail.tail.tail.tail.tail.headD undef) w R)
  (fun s w => Fspec_MoveIn.r3 (s.headD undef) (s.tail.headD undef) (s.tail.tail.headD undef) (s.tail.tail.tail.headD undef) (s.tail.tail.tail.tail.headD undef) (s.tail.tail.tail.tail.tail.headD undef) w R)))
def Fspec_MoveIn.H : Hints := {draw := fun i => match i with | 11 => { T := [0, 1, 0, 4, 0, 28, 60, 124, 252, 508, 1023, 2047, 4095] } | _ => {}, loop := fun i => match i with | 9 => some (0, [4, 5, 8, 9, 10, 12]) | _ => none}
theorem Fspec_MoveIn.eq (t0 t1 t2 t3 : Value) : trF PR CX Fspec_MoveIn.H Tryz.f30 [t0, t1, t2, t3] = Fspec_MoveIn t0 t1 t2 t3 := by kernel_rfl
theorem Fspec_MoveIn.cl {t0 t1 t2 t3 : Value} {w : World} {R : VW} (h : Fspec_MoveIn t0 t1 t2 t3 w R) : clT PR 30 [t0, t1, t2, t3] w R := cl_of_tr (H := Fspec_MoveIn.H) ctxOk Tryz.func30 rfl (by rw [Fspec_MoveIn.eq]; exact h)
def Fspec_MachNew.l1 (x1 x3 x6 x7 x8 x9 : Value) (w : World) (Kn Kb Kr : LW) : Prop := ∀ _ : Env,
  binT .lss x9 x1 fun t30 =>
  condT t30
  (fadT 1 x8 fun t33 =>
  ldT t33 w fun t34 =>
  bslT 162 0 5 #[] [] w fun t35 w16 =>
  bldT #[(.int .i64 0), (.slice none 0 0)] [(0, 1, (.int .i64 (-1))), (1, 1, t35)] fun t36 =>
  bslT 116 1 2 #[(.int .i64 0), (.slice none 0 0)] [(0, 2, t36)] w16 fun t37 w17 =>
  opT PR (Builtin.append_ #[33, 33] 33 #[t34, t37]) w17 fun t38 w18 =>
  fadT 1 x8 fun t39 =>
  stT t39 t38 w18 fun w19 =>
  fadT 2 x8 fun t40 =>
  ldT t40 (w19.drew) fun t41 =>
  binT .add x9 (.int .i64 1) fun t43 =>
  binT .rem t43 x1 fun t45 =>
  bslT 3 1 1 #[(.int .i64 0)] [(0, 1, t45)] (w19.drew) fun t46 w20 =>
  (ldT t40 w20 fun u => u = t41) ∧
  opT PR (Builtin.append_ #[26, 26] 26 #[t41, t46]) w20 fun t47 w21 =>
  fadT 2 x8 fun t48 =>
  stT t48 t47 w21 fun w22 =>
  binT .add x9 (.int .i64 1) fun t32 =>
  Kn [x1, x3, x6, x7, x8, t32] w22)
  (Kb [x1, x3, x6, x7, x8, x9] w)
def Fspec_MachNew.k2 (x1 x3 x6 x7 x8 x9 : Value) (w : World) (R : VW) : Prop := ∀ _ : Env,
  fadT 1 x8 fun t49 =>
  ldT t49 (w.drew) fun t50 =>
  fadT 1 x8 fun t51 =>
  ldT t51 (w.drew) fun t52 =>
  ixaT 2 t52 (.int .i64 0) fun t53 =>
  fadT 1 t53 fun t54 =>
  ldT t54 (w.drew) fun t55 =>
  ldsT 1 x3 (w.drew) fun t56 =>
  bslT 127 0 2 #[] [] (w.drew) fun t57 w23 =>
  (ldsT 1 x3 w23 fun u => u = t56) ∧
  (ldT t54 w23 fun u => u = t55) ∧
  (ldT t51 w23 fun u => u = t52) ∧
  (ldT t49 w23 fun u => u = t50) ∧
  clT PR 129 [t56, (.int .i64 0), t57] w23 fun t58 w24 =>
  (ldT t54 w24 fun u => u = t55) ∧
  (ldT t51 w24 fun u => u = t52) ∧
  (ldT t49 w24 fun u => u = t50) ∧
  bslT 162 1 5 #[(.int .i64 0), (.int .i64 0), (.int .i64 0), (.slice none 0 0), (.slice none 0 0)] [(0, 5, t58)] w24 fun t59 w25 =>
  (ldT t54 w25 fun u => u = t55) ∧
  (ldT t51 w25 fun u => u = t52) ∧
  (ldT t49 w25 fun u => u = t50) ∧
  opT PR (Builtin.append_ #[114, 114] 114 #[t55, t59]) w25 fun t60 w26 =>
  (ldT t49 w26 fun u => u = t50) ∧
  ixaT 2 t50 (.int .i64 0) fun t61 =>
  fadT 1 t61 fun t62 =>
  stT t62 t60 w26 fun w27 =>
  ldsT 8 x8 w27 fun t63 =>
  stsT 8 x6 t63 w27 fun w28 =>
  ldsT 8 x6 w28 fun r29 =>
  R (.tuple #[r29, (.bool true)]) w28
def Fspec_MachNew.r3 (x1 x3 x6 x7 x8 x9 : Value) (w : World) (R : VW) : Prop := ∀ _ : Env,
  ldsT 8 x6 w fun r30 =>
  R (.tuple #[r30, x7]) w
def Fspec_MachNew (t0 t1 t2 : Value) (w : World) (R : VW) : Prop :=
  boxT 42 t0 w fun t3 w1 =>
  allocT 37 #[(.int .i64 0), (.slice none 0 0), (.slice none 0 0), (.int .i64 0), (.slice none 0 0), (.int .i64 0), (.slice none 0 0), (.int .i64 0)] w1 fun t6 w2 =>
  ldsT 1 t3 w2 fun t10 =>
  clT PR 127 [t10] w2 fun t11 w3 =>
  notT t11 fun t12 =>
  condT t12
  (bldT #[(.int .i64 0), (.slice none 0 0), (.slice none 0 0), (.int .i64 0), (.slice none 0 0), (.int .i64 0), (.slice none 0 0), (.int .i64 0)] [] fun t23 =>
  stsT 8 t6 t23 w3 fun w4 =>
  ldsT 8 t6 w4 fun r5 =>
  R (.tuple #[r5, (.bool false)]) w4)
  (clT PR 128 [t1, (.int .i64 1), (.int .i64 4)] w3 fun t15 w6 =>
  notT t15 fun t16 =>
  condT t16
  (bldT #[(.int .i64 0), (.slice none 0 0), (.slice none 0 0), (.int .i64 0), (.slice none 0 0), (.int .i64 0), (.slice none 0 0), (.int .i64 0)] [] fun t23 =>
  stsT 8 t6 t23 w6 fun w7 =>
  ldsT 8 t6 w7 fun r8 =>
  R (.tuple #[r8, (.bool false)]) w7)
  (clT PR 128 [t2, (.int .i64 14), (.int .i64 60)] w6 fun t20 w9 =>
  notT t20 fun t21 =>
  condT t21
  (bldT #[(.int .i64 0), (.slice none 0 0), (.slice none 0 0), (.int .i64 0), (.slice none 0 0), (.int .i64 0), (.slice none 0 0), (.int .i64 0)] [] fun t23 =>
  stsT 8 t6 t23 w9 fun w10 =>
  ldsT 8 t6 w10 fun r11 =>
  R (.tuple #[r11, (.bool false)]) w10)
  (bslT 91 0 8 #[] [] w9 fun t25 w12 =>
  bslT 127 0 2 #[] [] w12 fun t26 w13 =>
  bldT #[(.int .i64 0), (.slice none 0 0), (.slice none 0 0), (.int .i64 0), (.slice none 0 0), (.int .i64 0), (.slice none 0 0), (.int .i64 0)] [(0, 1, t2), (4, 1, t25), (5, 1, (.int .i64 1)), (6, 1, t26)] fun t27 =>
  allocT 37 #[(.int .i64 0), (.slice none 0 0), (.slice none 0 0), (.int .i64 0), (.slice none 0 0), (.int .i64 0), (.slice none 0 0), (.int .i64 0)] w13 fun t8 w14 =>
  stsT 8 t8 t27 w14 fun w15 =>
  loopT (fun s w Kn Kb Kr => Fspec_MachNew.l1 (s.headD undef) (s.tail.headD undef) (s.tail.tail.headD undef) (s.tail.tail.tail.headD undef) (s.tail.tail.tail.tail.headD undef) (s.tail.tail.tail.tail.tail.headD undef) w Kn Kb Kr) [t1, t3, t6, (.bool false), t8, (.int .i64 0)] w15
  (fun s w => Fspec_MachNew.k2 (s.headD undef) (s.tail.headD undef) (s.tail.tail.headD undef) (s.tail.tail.tail.headD undef) (s.tail.tail.tail.tail.headD undef) (s.tail.tail.tail.tail.tail.headD undef) w R)
  (fun s w => Fspec_MachNew.r3 (s.headD undef) (s.tail.headD undef) (s.tail.tail.headD undef) (s.tail.tail.tail.headD undef) (s.tail.tail.tail.tail.headD undef) (s.tail.tail.tail.tail.tail.headD undef) w R))))
def Fspec_MachNew.H : Hints := {draw := fun i => match i with | 8 => { T := [0, 1, 0, 4, 0, 28, 60, 127, 255, 511] } | 9 => { T := [0, 1, 0, 4, 12, 28, 60, 0, 0, 384, 896, 2044, 4095, 8191, 16383] } | _ => {}, loop := fun i => match i with | 5 => some (0, [1, 3, 6, 7, 8, 9]) | _ => none}
theorem Fspec_MachNew.eq (t0 t1 t2 : Value) : trF PR CX Fspec_MachNew.H Tryz.f47 [t0, t1, t2] = Fspec_MachNew t0 t1 t2 := by kernel_rfl
theorem Fspec_MachNew.cl {t0 t1 t2 : Value} {w : World} {R : VW} (h : Fspec_MachNew t0 t1 t2 w R) : clT PR 47 [t0, t1, t2] w R := cl_of_tr (H := Fspec_MachNew.H) ctxOk Tryz.func47 rfl (by rw [Fspec_MachNew.eq]; exact h)
def Fspec_l21Mach_load (t0 t1 t2 : Value) (w : World) (R : VW) : Prop :=
  nilT PR t0 fun t8 =>
  fadT 1 t8 fun t9 =>
  fadT 4 t9 fun t10 =>
  ldT t10 w fun t11 =>
  ixaT 8 t11 t1 fun t13 =>
  fadT 2 t13 fun t14 =>
  ldsT 6 t14 w fun t15 =>
  allocT 89 #[(.int .i64 0), (.int .i64 0), (.slice none 0 0), (.slice none 0 0), (.int .i64 0), (.bool false)] w fun t6 w1 =>
  stsT 6 t6 t15 w1 fun w2 =>
  nilT PR t0 fun t17 =>
  fadT 1 t17 fun t18 =>
  fadT 1 t18 fun t19 =>
  ldT t19 (w2.drew) fun t20 =>
  fadT 4 t6 fun t22 =>
  ldT t22 (w2.drew) fun t23 =>
  fadT 0 t6 fun t24 =>
  ldT t24 (w2.drew) fun t25 =>
  fadT 1 t6 fun t26 =>
  ldT t26 (w2.drew) fun t27 =>
  fadT 2 t6 fun t29 =>
  ldT t29 (w2.drew) fun t30 =>
  fadT 3 t6 fun t31 =>
  ldT t31 (w2.drew) fun t32 =>
  bldT #[(.int .i64 0), (.int .i64 0), (.int .i64 0), (.slice none 0 0), (.slice none 0 0)] [(0, 1, t25), (1, 1, t27), (2, 1, t1), (3, 1, t30), (4, 1, t32)] fun t33 =>
  bslT 162 1 5 #[(.int .i64 0), (.int .i64 0), (.int .i64 0), (.slice none 0 0), (.slice none 0 0)] [(0, 5, t33)] (w2.drew) fun t34 w3 =>
  (ldT t22 w3 fun u => u = t23) ∧
  (ldT t19 w3 fun u => u = t20) ∧
  bldT #[(.int .i64 0), (.slice none 0 0)] [(0, 1, t23), (1, 1, t34)] fun t35 =>
  ixaT 2 t20 t2 fun t36 =>
  stsT 2 t36 t35 w3 fun w4 =>
  nilT PR t0 fun t38 =>
  fadT 1 t38 fun t39 =>
  fadT 4 t39 fun t40 =>
  ldT t40 w4 fun t41 =>
  bslT 127 0 2 #[] [] w4 fun t44 w5 =>
  bslT 127 0 2 #[] [] w5 fun t45 w6 =>
  bldT #[(.int .i64 0), (.int .i64 0), (.slice none 0 0), (.slice none 0 0), (.int .i64 0), (.bool false)] [(2, 1, t44), (3, 1, t45)] fun t46 =>
  bldT #[(.int .i64 0), (.int .i64 0), (.int .i64 0), (.int .i64 0), (.slice none 0 0), (.slice none 0 0), (.int .i64 0), (.bool false)] [(0, 1, t2), (2, 6, t46)] fun t47 =>
  ixaT 8 t41 t1 fun t48 =>
  stsT 8 t48 t47 w6 fun w7 =>
  R (.tuple #[]) w7
def Fspec_l21Mach_load.H : Hints := {draw := fun i => match i with | 1 => { T := [0, 1, 3, 7, 15, 0, 0, 64, 0, 256, 0, 1024, 0, 0, 8192, 0, 32768, 130816, 261888, 524224, 1048575, 2097151] } | _ => {}}
theorem Fspec_l21Mach_load.eq (t0 t1 t2 : Value) : trF PR CX Fspec_l21Mach_load.H Tryz.f94 [t0, t1, t2] = Fspec_l21Mach_load t0 t1 t2 := by kernel_rfl
theorem Fspec_l21Mach_load.cl {t0 t1 t2 : Value} {w : World} {R : VW} (h : Fspec_l21Mach_load t0 t1 t2 w R) : clT PR 94 [t0, t1, t2] w R := cl_of_tr (H := Fspec_l21Mach_load.H) ctxOk Tryz.func94 rfl (by rw [Fspec_l21Mach_load.eq]; exact h)
def Fspec_l21Frame (t0 t1 t2 : Value) (w : World) (R : VW) : Prop :=
  boxT 42 t0 w fun t3 w1 =>
  allocT 162 #[(.int .i64 0), (.int .i64 0), (.int .i64 0), (.slice none 0 0), (.slice none 0 0)] w1 fun t6 w2 =>
  ldsT 1 t3 w2 fun t8 =>
  clT PR 188 [t8, t1, t2, (.int .i64 (-1))] w2 fun t11 w3 =>
  allocT 89 #[(.int .i64 0), (.int .i64 0), (.slice none 0 0), (.slice none 0 0), (.int .i64 0), (.bool false)] w3 fun t7 w4 =>
  stsT 6 t7 t11 w4 fun w5 =>
  fadT 2 t7 fun t13 =>
  ldT t13 w5 fun t14 =>
  fadT 3 t7 fun t15 =>
  ldT t15 w5 fun t16 =>
  bldT #[(.int .i64 0), (.int .i64 0), (.int .i64 0), (.slice none 0 0), (.slice none 0 0)] [(0, 1, t1), (2, 1, (.int .i64 (-1))), (3, 1, t14), (4, 1, t16)] fun t17 =>
  stsT 5 t6 t17 w5 fun w6 =>
  ldsT 5 t6 w6 fun r7 =>
  R r7 w6
def Fspec_l21Frame.H : Hints := {}
theorem Fspec_l21Frame.eq (t0 t1 t2 : Value) : trF PR CX Fspec_l21Frame.H Tryz.f129 [t0, t1, t2] = Fspec_l21Frame t0 t1 t2 := by kernel_rfl
theorem Fspec_l21Frame.cl {t0 t1 t2 : Value} {w : World} {R : VW} (h : Fspec_l21Frame t0 t1 t2 w R) : clT PR 129 [t0, t1, t2] w R := cl_of_tr (H := Fspec_l21Frame.H) ctxOk Tryz.func129 rfl (by rw [Fspec_l21Frame.eq]; exact h)
end Go.PT
namespace Go.PT
theorem fill_fr {k t : Int} {A A' : Option Addr} {n n' c c' : Nat} : fillT #[(.int .i64 0), (.int .i64 0), (.int .i64 0), (.slice none 0 0), (.slice none 0 0)] [(0, 1, (.int .i64 k)), (2, 1, (.int .i64 t)), (3, 1, (.slice A n c)), (4, 1, (.slice A' n' c'))] = some #[.int .i64 k, .int .i64 0, .int .i64 t, .slice A n c, .slice A' n' c'] := by kernel_rfl
theorem fill_fr5 {k pc t : Int} {A A' : Option Addr} {n n' c c' : Nat} : fillT #[(.int .i64 0), (.int .i64 0), (.int .i64 0), (.slice none 0 0), (.slice none 0 0)] [(0, 1, (.int .i64 k)), (1, 1, (.int .i64 pc)), (2, 1, (.int .i64 t)), (3, 1, (.slice A n c)), (4, 1, (.slice A' n' c'))] = some #[.int .i64 k, .int .i64 pc, .int .i64 t, .slice A n c, .slice A' n' c'] := by kernel_rfl
theorem fill_c0 {A A' : Option Addr} : fillT #[(.int .i64 0), (.int .i64 0), (.slice none 0 0), (.slice none 0 0), (.int .i64 0), (.bool false)] [(2, 1, (.slice A 0 0)), (3, 1, (.slice A' 0 0))] = some (cellsC call0 (.slice A 0 0) (.slice A' 0 0)).toArray := by kernel_rfl
theorem En.give {L0 L : Lab} {w0 w : World} {l : List (Nat × List Value)} {b : Nat} {cs : List Value} (E : En L0 w0 L w ((b, cs) :: l)) (q : List Nat) : En L0 w0 (joinL L [] (lab1 b q)) w l ∧ joinL L [] (lab1 b q) b = some q := by
  have hb := E.loc (b, cs) (.head _)
  have hn := (List.nodup_cons.mp E.once).1
  have no : ∀ x, L x = none → x ≠ b → joinL L [] (lab1 b q) x = none := fun x hx hne => joinL_none (by unfold lab1; rw [if_neg hne]) hx
  refine ⟨⟨⟨E.mu.fr, fun x hx hx0 => no x (E.mu.un x hx hx0) (fun e => by have := hb.2; simp only at this; omega), joinL_lim E.mu.lim (lab1_lim hb.1.1.lt)⟩, fun x hx => ?_, (List.nodup_cons.mp E.once).2⟩, joinL_right (by simp [lab1]) hb.1.2⟩
  have hx2 := E.loc x (.tail _ hx)
  exact ⟨⟨hx2.1.1, no _ hx2.1.2 (fun e => hn (by rw [← e]; exact List.mem_map.mpr ⟨x, hx, rfl⟩))⟩, hx2.2⟩
attribute [local irreducible] ldT ldsT stT stsT allocT boxT bldT bslT nilT fadT ixaT fldT extT lenT pickT binT notT cviT opT opU condT clT clvT ivT loopT arT ndT World.cell? World.frozen? World.alloc World.drew World.setCell Blk Cells Sl
section
variable {L : Lab} {w : World} {b : Nat} {m : Mc} {up uo ut us u : Value} {R : VW} {p : Pg}
theorem c_specFrame {k : Int} {args : List V} {ua : Value} (hp : Sl kMeth Any w [] p u) (ha : Sl kPair Any w [] args ua) (k0 : 0 ≤ k) (k1 : k < p.length) (hl : args.length ≤ 1000000) (ht0 : 0 ≤ (methAt p k).temps) (ht : (methAt p k).temps ≤ 1000000)
    (hR : ∀ w' M ut us, Ext w w' → Born w M → Lim M w' → Sl kPair (Own M) w' [2] (newF p k args).temps ut → Sl kPair (Own M) w' [3] [] us → R (.agg (cellsF (newF p k args) ut us).toArray) w') :
    clT PR 129 [.agg #[u], .int .i64 k, ua] w R := by
  refine Fspec_l21Frame.cl ?_
  unfold Fspec_l21Frame
  have E := En.start w
  refine E.box (fun b1 w1 E _ => ?_)
  refine E.al (fun b2 w2 E _ => ?_)
  refine E.lds (.tail _ (.head _)) rfl ?_
  refine c_l11Call (s := -1) (hp.ext E.toExt) (ha.ext E.toExt) k0 k1 hl ht0 ht (fun w3 M ut us e3 hb3 hl3 h1 h2 => ?_)
  have hap := apart_of E.mu.lim hb3
  have g1 := h1.inR (q := []) hap
  have g2 := h2.inR (q := []) hap
  replace E := E.join [] e3 hb3 hl3
  simp only [List.nil_append] at g1 g2
  obtain ⟨A1, n1, c1, rfl⟩ := g1.sl
  obtain ⟨A2, n2, c2, rfl⟩ := g2.sl
  refine E.als (vs := cellsC (newC p k args (-1)) (.slice A1 n1 c1) (.slice A2 n2 c2)) rfl rfl rfl (fun u hu => List.all_eq_true.mp rfl u hu) (fun b4 w4 E e4 => ?_)
  replace g1 := g1.keepX e4
  replace g2 := g2.keepX e4
  (refine fad_of ?_)
  refine E.ld (.head _) rfl ?_
  (refine fad_of ?_)
  refine E.ld (.head _) rfl ?_
  refine bld_of fill_fr ?_
  refine En.sts' (vs := cellsF (newF p k args) (.slice A1 n1 c1) (.slice A2 n2 c2)) [_] rfl E rfl rfl (fun u hu => List.all_eq_true.mp rfl u hu) (fun w5 E e5 => ?_)
  refine E.lds (.tail _ (.head _)) rfl ?_
  exact hR _ _ _ _ E.toExt E.born E.mu.lim (g1.loc e5) (g2.loc e5)
theorem c_specLoad {i t : Int} (S : MM L w b m up uo ut us [u]) (i0 : 0 ≤ i) (i1 : i < m.pages.length) (t0 : 0 ≤ t) (t1 : t < m.twins.length) (hm : (twAt m t).left.method ≠ -1)
    (hR : ∀ w' L', Mut L w L' w' → MM L' w' b (loadM m t i) up uo ut us [u] → R (.tuple #[]) w') : clT PR 94 [.pointer (some ⟨b, 0, none⟩), .int .i64 t, .int .i64 i] w R := by
  refine Fspec_l21Mach_load.cl ?_
  unfold Fspec_l21Mach_load
  have E := En.init S.lim
  obtain ⟨bt, ot, u1, v1, T⟩ := S.tf t0 t1
  (refine nil_of ?_)
  (refine fad_of ?_)
  (refine fad_of ?_)
  refine ld_of (S.cell rfl) ?_
  refine S.tixF T t0 t1 ?_
  (refine fad_of ?_)
  refine lds_of (T.cells.part 2 6 (sub := cellsC (twAt m t).left u1 v1) rfl) rfl ?_
  refine E.als (vs := cellsC (twAt m t).left u1 v1) rfl rfl rfl (cellsC_one T.temps.one T.stack.one) (fun b1 w1 E e1 => ?_)
  replace E := E.drew
  replace S := (S.ext e1).drew
  have ed := (Fr.refl No w1).drew
  replace T : TF L w1.drew ut t (twAt m t) bt ot u1 v1 := ⟨T.at', T.lab, (T.cells.ext e1).ext ed, (T.temps.keepX e1).keepX ed, (T.stack.keepX e1).keepX ed⟩
  (refine nil_of ?_)
  (refine fad_of ?_)
  (refine fad_of ?_)
  refine ld_of (S.cell rfl) ?_
  (refine fad_of ?_)
  refine E.ld (.head _) rfl ?_
  (refine fad_of ?_)
  refine E.ld (.head _) rfl ?_
  (refine fad_of ?_)
  refine E.ld (.head _) rfl ?_
  (refine fad_of ?_)
  refine E.ld (.head _) rfl ?_
  (refine fad_of ?_)
  refine E.ld (.head _) rfl ?_
  have hu := T.temps
  have hv := T.stack
  obtain ⟨A1, n1, c1, rfl⟩ := hu.sl
  obtain ⟨A2, n2, c2, rfl⟩ := hv.sl
  refine bld_of fill_fr5 ?_
  refine bsl_of' rfl rfl rfl (fun b5 w5 e5 hb5 k5 => ?_)
  replace k5 : Blk w5 b5 (cellsF (clFm (twAt m t).left t) (.slice A1 n1 c1) (.slice A2 n2 c2)) := k5
  obtain ⟨S5, hl5, mu5⟩ := S.blkAt [0, i.toNat, 1] e5 hb5 k5
  replace E := E.call mu5
  replace hu := (hu.keepX e5).inL (q := []) (M := lab1 b5 [0, i.toNat, 1])
  replace hv := (hv.keepX e5).inL (q := []) (M := lab1 b5 [0, i.toNat, 1])
  replace T : TF (joinL L [] (lab1 b5 [0, i.toNat, 1])) w5 ut t (twAt m t) bt ot (.slice A1 n1 c1) (.slice A2 n2 c2) := ⟨T.at', joinL_left T.lab, T.cells.ext e5, hu, hv⟩
  clear S mu5
  generalize joinL L [] (lab1 b5 [0, i.toNat, 1]) = L5 at E S5 hu hv hl5 T
  refine ⟨E.ld (.head _) rfl rfl, ?_⟩
  refine ⟨ld_of (S5.cell rfl) rfl, ?_⟩
  refine bld_of (cs := #[.int .i64 (twAt m t).left.sender, .slice (some ⟨b5, 0, none⟩) 1 1]) rfl ?_
  have hfr1 : Sl kFmO (Own L5) w5 [0, i.toNat, 1] [relF (clFm (twAt m t).left t)] (.slice (some ⟨b5, 0, none⟩) 1 1) := sl_one k5 (rel_K rfl rfl) (k5.own hl5 (Nat.le_refl 5))
  refine S5.pix i0 i1 (fun bp op uf F => ?_)
  have hlp := F.lab
  refine S5.pputE (g' := ⟨(twAt m t).left.sender, [relF (clFm (twAt m t).left t)]⟩) F i0 i1 hfr1 (fun w6 e6 m6 S F => ?_)
  replace E := E.call m6
  replace hu := hu.other e6 hlp (by simp)
  replace hv := hv.other e6 hlp (by simp)
  have k6 := k5.other hl5 e6 hlp (by simp)
  have htw : twAt (putPn m i ⟨(twAt m t).left.sender, [relF (clFm (twAt m t).left t)]⟩) t = twAt m t := rfl
  replace T : TF L5 w6 ut t (twAt m t) bt ot (.slice A1 n1 c1) (.slice A2 n2 c2) := ⟨T.at', T.lab, T.cells.fr e6 (fun e => by have h9 := T.lab; rw [e, hlp] at h9; cases h9), hu, hv⟩
  (refine nil_of ?_)
  (refine fad_of ?_)
  (refine fad_of ?_)
  refine ld_of (S.cell rfl) ?_
  refine E.bsl rfl rfl rfl (fun b7 w7 E e7 => ?_)
  refine E.bsl rfl rfl rfl (fun b8 w8 E e8 => ?_)
  have e78 := e7.trans e8
  replace S := S.ext e78
  replace F := F.ext e78
  replace hu := hu.keepX e78
  replace hv := hv.keepX e78
  have k8 := k6.ext e78
  replace T : TF L5 w8 ut t (twAt m t) bt ot (.slice A1 n1 c1) (.slice A2 n2 c2) := ⟨T.at', T.lab, T.cells.ext e78, hu, hv⟩
  refine bld_of fill_c0 ?_
  refine bld_of fill_tw ?_
  refine S.tixF T t0 t1 ?_
  have hbt := T.lab
  refine S.tput (x' := ⟨i, 0, call0⟩) T t0 t1 Sl.none0 Sl.none0 (fun w9 e9 m9 S T => ?_)
  replace E := E.call m9
  replace hu := hu.other e9 hbt (by simp)
  replace hv := hv.other e9 hbt (by simp)
  have k9 := k8.other hl5 e9 hbt (by simp)
  replace F : PF L5 w9 up i ⟨(twAt m t).left.sender, [relF (clFm (twAt m t).left t)]⟩ bp op (.slice (some ⟨b5, 0, none⟩) 1 1) := ⟨F.at', F.lab, F.cells.fr e9 (fun e => by have h9 := F.lab; rw [e, hbt] at h9; cases h9), F.frames.other e9 hbt (by simp)⟩
  have c : Chp [2, t.toNat] L5 w9 (movL L5 [2, t.toNat] [0, i.toNat, 1, 0]) w9 := Chp.mov S.lim
  have hself : twAt (putTw (putPn m i ⟨(twAt m t).left.sender, [relF (clFm (twAt m t).left t)]⟩) t ⟨i, 0, call0⟩) t = ⟨i, 0, call0⟩ := (twAt_put (m := putPn m i ⟨(twAt m t).left.sender, [relF (clFm (twAt m t).left t)]⟩) t0 t1 t0).trans (if_pos rfl)
  replace S := S.chgTw (P' := []) (x' := ⟨i, 0, call0⟩) (by rw [hself]; exact T) t0 (by rw [putTw_len]; exact t1) c (by rw [hself]; exact ⟨_, _, rfl, Sl.none0, Sl.none0⟩)
  have hpp : putTw (putTw (putPn m i ⟨(twAt m t).left.sender, [relF (clFm (twAt m t).left t)]⟩) t ⟨i, 0, call0⟩) t ⟨i, 0, call0⟩ = putTw (putPn m i ⟨(twAt m t).left.sender, [relF (clFm (twAt m t).left t)]⟩) t ⟨i, 0, call0⟩ := by unfold putTw; simp
  rw [hpp] at S
  replace hu := Sl.mov (A := [2, t.toNat]) (B := [0, i.toNat, 1, 0]) (r := [2]) hu
  replace hv := Sl.mov (A := [2, t.toNat]) (B := [0, i.toNat, 1, 0]) (r := [3]) hv
  replace hl5 := movL_no (B := [0, i.toNat, 1, 0]) hl5 (show ¬ [2, t.toNat] <+: [0, i.toNat, 1] by simp)
  replace E := E.call c.mu
  replace F := F.chg c (by simp) (by simp)
  have hfr : Sl kFmO (Own (movL L5 [2, t.toNat] [0, i.toNat, 1, 0])) w9 [0, i.toNat, 1] [clFm (twAt m t).left t] (.slice (some ⟨b5, 0, none⟩) 1 1) :=
    sl_one k9 ⟨_, _, .inl ⟨hm, rfl, hu, hv⟩⟩ (k9.own hl5 (Nat.le_refl 5))
  have hlen : i < (putTw (putPn m i ⟨(twAt m t).left.sender, [relF (clFm (twAt m t).left t)]⟩) t ⟨i, 0, call0⟩).pages.length := by
    show i < ((m.pages.set i.toNat _).length : Nat)
    rw [List.length_set]; exact i1
  have hpn : pnAt (putTw (putPn m i ⟨(twAt m t).left.sender, [relF (clFm (twAt m t).left t)]⟩) t ⟨i, 0, call0⟩) i = ⟨(twAt m t).left.sender, [relF (clFm (twAt m t).left t)]⟩ := by
    show pnAt (putPn m i _) i = _
    rw [pnAt_put i0 i1 i0, if_pos rfl]
  obtain ⟨S, F⟩ := S.chgPage (g' := ⟨(twAt m t).left.sender, [clFm (twAt m t).left t]⟩) (P' := []) (i := i) (by rw [hpn]; exact F) i0 hlen (Chp.ext (Fr.refl No w9) S.lim) (by rw [hpn]) hfr
  have hfin : putPn (putTw (putPn m i ⟨(twAt m t).left.sender, [relF (clFm (twAt m t).left t)]⟩) t ⟨i, 0, call0⟩) i ⟨(twAt m t).left.sender, [clFm (twAt m t).left t]⟩ = loadM m t i := by
    unfold loadM putTw putPn
    simp
  rw [hfin] at S
  exact hR _ _ E.mu S
def bareS (r : Nat) (cells : Int) (k : Nat) : Mc := ⟨cells, List.replicate k ⟨-1, []⟩, (orderN r).take k, 0, [], 1, [], 0⟩
theorem bareS_all {r : Nat} {cells : Int} : bareS r cells r = bareM r cells := by
  unfold bareS bareM
  rw [List.take_of_length_le (by rw [orderN_len]; omega)]
theorem bareM_plain {r : Nat} {c : Int} : Plain (bareM r c) := by
  intro g hg f hf
  have : g = ⟨-1, []⟩ := (List.mem_replicate.mp hg).2
  subst this
  cases hf
theorem fill_mS {c : Int} {A A' : Option Addr} : fillT #[(.int .i64 0), (.slice none 0 0), (.slice none 0 0), (.int .i64 0), (.slice none 0 0), (.int .i64 0), (.slice none 0 0), (.int .i64 0)] [(0, 1, (.int .i64 c)), (4, 1, (.slice A 0 0)), (5, 1, (.int .i64 1)), (6, 1, (.slice A' 0 0))] = some (machCells (bareS 0 c 0) (.slice none 0 0) (.slice none 0 0) (.slice A 0 0) (.slice A' 0 0)).toArray := by kernel_rfl
theorem c_specMachNew {r c : Int} (hp : Sl kMeth Any w [] p u) (hpl : p.length ≤ 1073741824) (hml : ∀ m ∈ p, m.ops.length ≤ 1073741824)
    (hR : ∀ w' M up' uo' ut' us', Ext w w' → Born w M → Lim M w' → MOwn M w' (newR p r c).1 up' uo' ut' us' → R (.tuple #[.agg (machCells (newR p r c).1 up' uo' ut' us').toArray, .bool (newR p r c).2]) w') :
    clT PR 47 [.agg #[u], .int .i64 r, .int .i64 c] w R := by
  refine Fspec_MachNew.cl ?_
  unfold Fspec_MachNew
  have E := En.start w
  refine E.box (fun b1 w1 E _ => ?_)
  refine E.al (fun b2 w2 E _ => ?_)
  have no : ∀ {w5 : World} (E : En noL w noL w5 [(b2, zeroM), (b1, [u])]), newR p r c = (mc0, false) →
      bldT #[(.int .i64 0), (.slice none 0 0), (.slice none 0 0), (.int .i64 0), (.slice none 0 0), (.int .i64 0), (.slice none 0 0), (.int .i64 0)] [] fun t19 => stsT 8 (.pointer (some ⟨b2, 0, none⟩)) t19 w5 fun w5 => ldsT 8 (.pointer (some ⟨b2, 0, none⟩)) w5 fun r6 => R (.tuple #[r6, (.bool false)]) w5 := by
    intro w5 E hr
    refine bld_of (cs := zeroM.toArray) rfl ?_
    refine En.sts' (vs := zeroM) [] rfl E rfl rfl (fun u hu => List.all_eq_true.mp rfl u hu) (fun w9 E e9 => ?_)
    refine E.lds (.head _) rfl ?_
    rw [hr] at hR
    exact hR _ _ _ _ _ _ E.toExt E.born E.mu.lim mown0
  refine E.lds (.tail _ (.head _)) rfl ?_
  refine c_specProgOk (hp.ext E.toExt) hpl hml (fun w4 e4 => ?_)
  replace E := E.ext e4
  (refine not_of ?_)
  refine condN_of (fun h1 => no E (by unfold newR; rw [h1]; rfl)) (fun h1 => ?_)
  refine c_specIn ?_
  (refine not_of ?_)
  refine condN_of (fun h2 => no E (by unfold newR; rw [h2, Bool.false_and, Bool.and_false]; rfl)) (fun h2 => ?_)
  refine c_specIn ?_
  (refine not_of ?_)
  refine condN_of (fun h3 => no E (by unfold newR; rw [h3, Bool.and_false, Bool.and_false]; rfl)) (fun h3 => ?_)
  have he : newR p r c = (newM p r.toNat c, true) := by unfold newR; rw [h1, h2, h3]; rfl
  rw [he] at hR
  rw [inB_iff] at h2 h3
  obtain ⟨k, rfl⟩ : ∃ k : Nat, r = k := ⟨r.toNat, by omega⟩
  rw [Int.toNat_natCast] at hR
  have SN := new_sim (cells := c) h1 (rooms := k) (by omega) (by omega) h3.1 h3.2
  have HN := newH_ok h1
  have hpl0 := prog_len h1
  have hm0 := methOk_iff.mp (prog_meth h1 (i := 0) (by omega) (by omega))
  refine E.bsl rfl rfl rfl (fun b3 w5 E e5 => ?_)
  refine E.bsl rfl rfl rfl (fun b4 w6 E e6 => ?_)
  refine bld_of fill_mS ?_
  refine E.als (vs := machCells (bareS k c 0) (.slice none 0 0) (.slice none 0 0) (.slice (some ⟨b3, 0, none⟩) 0 0) (.slice (some ⟨b4, 0, none⟩) 0 0)) rfl rfl rfl (machCells_one rfl rfl rfl rfl) (fun b5 w7 E _ => ?_)
  replace E : En noL w noL w7 [(b5, machCells (bareS k c 0) (.slice none 0 0) (.slice none 0 0) (.slice (some ⟨b3, 0, none⟩) 0 0) (.slice (some ⟨b4, 0, none⟩) 0 0)), (b2, zeroM), (b1, [u])] := ⟨E.mu, fun x hx => E.loc x (by
    simp only [List.mem_cons, List.not_mem_nil, or_false] at hx ⊢
    rcases hx with h | h | h
    · exact .inl h
    · exact .inr (.inr (.inr (.inl h)))
    · exact .inr (.inr (.inr (.inr h)))), by
      have h := E.once
      simp only [List.map_cons, List.map_nil, List.nodup_cons, List.mem_cons, List.not_mem_nil, or_false, not_or] at h ⊢
      exact ⟨⟨h.1.2.2.1, h.1.2.2.2⟩, h.2.2.2.1, h.2.2.2.2⟩⟩
  refine loop_of (fun n s wx => ∃ (j : Nat) (vp vo : Value) (L : Lab), s = [.int .i64 k, .pointer (some ⟨b1, 0, none⟩), .pointer (some ⟨b2, 0, none⟩), .bool false, .pointer (some ⟨b5, 0, none⟩), .int .i64 j] ∧ j + n = k ∧
      En noL w L wx [(b5, machCells (bareS k c j) vp vo (.slice (some ⟨b3, 0, none⟩) 0 0) (.slice (some ⟨b4, 0, none⟩) 0 0)), (b2, zeroM), (b1, [u])] ∧ Sl kPn (Own L) wx [0] (List.replicate j ⟨-1, []⟩) vp ∧ Sl kInt (Own L) wx [1] ((orderN k).take j) vo) ?_ (m := k)
    ⟨0, _, _, noL, rfl, by omega, E, Sl.none0, Sl.none0⟩
  clear E no
  rintro n s wx Kn ⟨j, vp, vo, L, rfl, hj, E, hpg, ho⟩ hKn
  intro _
  simp only [List.headD_cons, List.tail_cons]
  (refine lss_of ?_)
  refine condLt_of (fun hlt => ?_) (fun hge => ?_)
  · (refine fad_of ?_)
    refine E.ld (.head _) rfl ?_
    refine E.bsl rfl rfl rfl (fun b8 w8 E e8 => ?_)
    refine bld_of fill_pg ?_
    refine E.bsl rfl rfl rfl (fun b9 w9 E e9 => ?_)
    have e89 := e8.trans e9
    have E0 := E
    refine grow_one (kd := kPn) ⟨-1, []⟩ (by kernel_rfl) (hpg.keepX e89) (E.blk (.head _)) ⟨_, rfl, Sl.none0⟩ rfl (by rw [List.length_replicate]; omega) E.mu.lim (fun v7 w10 L7 g7 _ h7 => ?_)
    replace E := (E.grow g7).pop.pop
    replace ho := (ho.keepX e89).grow g7 E0.mu.lim (fun r h => by cases h)
    (refine fad_of ?_)
    refine En.st' [] E (show 1 < 8 by decide) h7.one (fun w11 E e11 => ?_)
    replace h7 := h7.loc e11
    replace ho := ho.loc e11
    have d11 := (Fr.refl (fun _ => False) w11).drew
    replace E := E.drew
    replace h7 := h7.keepX (w' := w11.drew) d11
    replace ho := ho.keepX (w' := w11.drew) d11
    (refine fad_of ?_)
    refine E.ld (.head _) rfl ?_
    (refine add_of (by (omega)) (by (omega)) ?_)
    refine rem_of (by omega) ?_
    refine E.bsl rfl rfl rfl (fun b12 w12 E e12 => ?_)
    refine ⟨E.ld (.tail _ (.head _)) rfl rfl, ?_⟩
    have E1 := E
    refine grow_one (kd := kInt) (((j : Int) + 1).tmod k) (by kernel_rfl) (ho.keepX e12) (E.blk (.head _)) rfl rfl (by rw [List.length_take]; omega) E.mu.lim (fun v10 w13 L10 g10 _ h10 => ?_)
    replace E := (E.grow g10).pop
    replace h7 := (h7.keepX e12).grow g10 E1.mu.lim (fun r h => by cases h)
    (refine fad_of ?_)
    refine En.st' [] E (show 2 < 8 by decide) h10.one (fun w14 E e14 => ?_)
    replace h7 := h7.loc e14
    replace h10 := h10.loc e14
    (refine add_of (by (omega)) (by (omega)) ?_)
    have e1 : List.replicate (j + 1) (⟨-1, []⟩ : Pn) = List.replicate j ⟨-1, []⟩ ++ [⟨-1, []⟩] := List.replicate_succ'
    have e2 : (orderN k).take (j + 1) = (orderN k).take j ++ [((j : Int) + 1).tmod k] := by rw [List.take_add_one, orderN_get (by omega)]; rfl
    exact hKn (n - 1) _ _ (by omega) ⟨j + 1, v7, v10, L10, rfl, by omega, E, by rw [e1]; exact h7, by rw [e2]; exact h10⟩
  · intro _
    have hjk : j = k := by omega
    subst hjk
    rw [bareS_all] at E
    rw [List.take_of_length_le (by rw [orderN_len]; omega)] at ho
    have hlim := E.mu.lim
    have hpgO : Sl kPnO (Own L) wx [0] (List.replicate j ⟨-1, []⟩) vp := hpg.mapO (kd' := kPnO) (show kPnO.sz = kPn.sz from rfl) (fun i g es hx hK => by
      obtain ⟨u, rfl, hu⟩ := hK
      exact ⟨u, rfl, frames_given hu (bareM_plain (r := j) (c := c) g (List.mem_of_getElem? hx))⟩)
    have kb : Blk wx b5 (machCells (bareM j c) vp vo (.slice (some ⟨b3, 0, none⟩) 0 0) (.slice (some ⟨b4, 0, none⟩) 0 0)) := E.blk (.head _)
    obtain ⟨E, hlab⟩ := E.give []
    have S : MM (joinL L [] (lab1 b5 [])) wx b5 (bareM j c) vp vo (.slice (some ⟨b3, 0, none⟩) 0 0) (.slice (some ⟨b4, 0, none⟩) 0 0) := ⟨kb, hlab, hpgO.inL, ho.inL, Sl.none0, Sl.none0, E.mu.lim⟩
    generalize joinL L [] (lab1 b5 []) = L1 at E S
    clear hpg hpgO ho kb hlim hlab
    replace E := E.drew
    replace S := S.drew
    have hlen : (0 : Int) < (bareM j c).pages.length := by rw [bareM_len]; omega
    (refine fad_of ?_)
    refine ld_of (S.cell rfl) ?_
    (refine fad_of ?_)
    refine ld_of (S.cell rfl) ?_
    obtain ⟨bp, op, uf, F⟩ := S.pf (Int.le_refl 0) hlen
    rw [bareM_pn (Int.le_refl 0) (by omega)] at F
    refine S.pixF F (Int.le_refl 0) hlen ?_
    (refine fad_of ?_)
    refine ld_of (F.cells.at 1 rfl) ?_
    refine E.lds (.tail _ (.head _)) rfl ?_
    refine E.bsl rfl rfl rfl (fun b15 w15 E e15 => ?_)
    replace S := S.ext e15
    replace F := F.ext e15
    refine ⟨E.lds (.tail _ (.tail _ (.head _))) rfl rfl, ?_⟩
    refine ⟨ld_of (F.cells.at 1 rfl) rfl, ?_⟩
    refine ⟨ld_of (S.cell rfl) rfl, ?_⟩
    refine ⟨ld_of (S.cell rfl) rfl, ?_⟩
    refine c_specFrame (hp.ext E.toExt) (args := []) (Sl.none0 (ok := Any)) (Int.le_refl 0) (by omega) (by simp) (by have h1 := hm0.t0; have h2 := hm0.a0; omega) (by have := hm0.t1; omega) (fun w16 N ut2 us2 e16 hb16 hl16 hT hT2 => ?_)
    have hap := apart_of S.lim hb16
    have hu := hT.inR (q := [0, 0, 1, 0]) hap
    have hv := hT2.inR (q := [0, 0, 1, 0]) hap
    replace E := E.join [0, 0, 1, 0] e16 hb16 hl16
    replace S := (S.ext e16).join (q := [0, 0, 1, 0]) hl16
    replace F := (F.ext e16).join (q := [0, 0, 1, 0]) (M := N)
    refine ⟨ld_of (F.cells.at 1 rfl) rfl, ?_⟩
    refine ⟨ld_of (S.cell rfl) rfl, ?_⟩
    refine ⟨ld_of (S.cell rfl) rfl, ?_⟩
    refine E.bsl rfl rfl rfl (fun b17 w17 E e17 => ?_)
    replace S := S.ext e17
    replace F := F.ext e17
    replace hu := hu.keepX e17
    replace hv := hv.keepX e17
    refine ⟨ld_of (F.cells.at 1 rfl) rfl, ?_⟩
    refine ⟨ld_of (S.cell rfl) rfl, ?_⟩
    refine ⟨ld_of (S.cell rfl) rfl, ?_⟩
    have k17 : Blk w17 b17 (cellsF (newF p 0 []) ut2 us2) := E.blk (.head _)
    refine grow_one (kd := kFmO) (newF p 0 []) (by kernel_rfl) F.frames k17 ⟨_, _, .inl ⟨by show (0 : Int) ≠ -1; decide, rfl, hu, hv⟩⟩ rfl (by simp) S.lim (fun v18 w18 L18 g18 d18 h18 => ?_)
    have ch := Chp.grw g18 S.lim
    obtain ⟨S, F⟩ := S.chgPage (i := 0) (P' := [1]) (g' := ⟨-1, []⟩) (by rw [bareM_pn (Int.le_refl 0) (by omega)]; exact F) (Int.le_refl 0) hlen ch (by rw [bareM_pn (Int.le_refl 0) (by omega)]) d18
    have eself : putPn (bareM j c) 0 ⟨-1, []⟩ = bareM j c := by
      have hg := pn_get (m := bareM j c) (Int.le_refl 0) hlen
      rw [bareM_pn (Int.le_refl 0) (by omega)] at hg
      unfold putPn
      rw [set_self hg]
    rw [eself] at S
    replace E := E.grow g18
    refine ⟨ld_of (S.cell rfl) rfl, ?_⟩
    refine S.pixF F (Int.le_refl 0) hlen ?_
    (refine fad_of ?_)
    refine MM.pst (m := bareM j c) (i := 0) (q := 1) (g' := ⟨-1, [newF p 0 []]⟩) S (by rw [bareM_pn (Int.le_refl 0) (by omega)]; exact F) (Int.le_refl 0) hlen h18.one (by decide) (by rw [bareM_pn (Int.le_refl 0) (by omega)]; rfl) h18 (fun w19 e19 m19 S F => ?_)
    replace E := E.call m19
    rw [← newM_put] at S
    refine lds_of (S.blk.cells) rfl ?_
    have O := S.own ((SN.mok HN).plain)
    refine En.sts' (vs := machCells (newM p j c) vp vo (.slice (some ⟨b3, 0, none⟩) 0 0) (.slice (some ⟨b4, 0, none⟩) 0 0)) [_, _] rfl E rfl rfl O.one (fun w20 E e20 => ?_)
    refine E.lds (.tail _ (.tail _ (.head _))) rfl ?_
    exact hR _ _ _ _ _ _ E.toExt E.born E.mu.lim (O.loc e20)
end
end Go.PT
namespace Go.PT
def inS (h : Hp) (r : Nat) (c : Int) (k : Nat) : Mc := { inM h r c with twins := (h.calls.take k).map twinOf }
theorem inS_plain {h : Hp} {r k : Nat} {c : Int} : Plain (inS h r c k) := by
  intro g hg f hf
  have : g = ⟨-1, []⟩ := (List.mem_replicate.mp hg).2
  subst this
  cases hf
theorem inS_all {h : Hp} {r k : Nat} {c : Int} (hk : h.calls.length ≤ k) : inS h r c k = inM h r c := by
  unfold inS
  rw [List.take_of_length_le hk]; rfl
theorem newM_bare {p : Pg} {r : Nat} {c : Int} (hr : 0 < r) : putPn (newM p r c) 0 ⟨-1, []⟩ = bareM r c := by
  have hg := pn_get (m := bareM r c) (i := 0) (Int.le_refl 0) (by rw [bareM_len]; omega)
  rw [bareM_pn (Int.le_refl 0) (by omega)] at hg
  rw [newM_put]
  unfold putPn
  simp only [List.set_set]
  rw [set_self hg]
theorem fill_w {u : Value} {m : Mc} {up uo ut us : Value} : fillT #[(.slice none 0 0), (.int .i64 0), (.slice none 0 0), (.slice none 0 0), (.int .i64 0), (.slice none 0 0), (.int .i64 0), (.slice none 0 0), (.int .i64 0)] [(0, 1, .agg #[u]), (1, 8, .agg (machCells m up uo ut us).toArray)] = some ([u] ++ machCells m up uo ut us).toArray := by kernel_rfl
attribute [local irreducible] ldT ldsT stT stsT allocT boxT bldT bslT nilT fadT ixaT fldT extT lenT pickT binT notT cviT opT opU condT clT clvT ivT loopT arT ndT World.cell? World.frozen? World.alloc World.drew World.setCell Blk Cells Sl
section
variable {w : World} {u : Value} {R : VW} {p : Pg}
theorem c_specMoveIn {h : Hp} {r c : Int} {uc uh : Value} (hp : Sl kMeth Any w [] p u) (hpl : p.length ≤ 1073741824) (hml : ∀ m ∈ p, m.ops.length ≤ 1073741824) (hh : HeapV w h uc uh)
    (hR : ∀ w' M up' uo' ut' us', Ext w w' → Born w M → Lim M w' → MOwn M w' (movR p h r c).1 up' uo' ut' us' → R (.tuple #[.agg (machCells (movR p h r c).1 up' uo' ut' us').toArray, .bool (movR p h r c).2]) w') :
    clT PR 30 [.agg #[u], .agg (heapCells h uc uh).toArray, .int .i64 r, .int .i64 c] w R := by
  refine Fspec_MoveIn.cl ?_
  unfold Fspec_MoveIn
  have E := En.start w
  refine E.box (fun b1 w1 E _ => ?_)
  refine E.box (fun b2 w2 E _ => ?_)
  refine E.al (fun b3 w3 E _ => ?_)
  refine E.lds (.tail _ (.tail _ (.head _))) rfl ?_
  refine c_specMachNew (r := r) (c := c) (hp.ext E.toExt) hpl hml (fun w4 M up uo ut us e4 hb4 hl4 hO => ?_)
  have hO := hO.inR (apart_of E.mu.lim hb4)
  replace E := E.join [] e4 hb4 hl4
  generalize joinL noL [] M = L at E hO
  refine ext_of rfl ?_
  refine ext_of rfl ?_
  refine E.als (vs := machCells (newR p r c).1 up uo ut us) rfl rfl rfl hO.one (fun b5 w5 E e5 => ?_)
  replace hO := hO.ext e5
  have no : ∀ {w6 : World}, En noL w L w6 [(b5, machCells (newR p r c).1 up uo ut us), (b3, zeroM), (b2, heapCells h uc uh), (b1, [u])] → movR p h r c = (mc0, false) →
      bldT #[(.int .i64 0), (.slice none 0 0), (.slice none 0 0), (.int .i64 0), (.slice none 0 0), (.int .i64 0), (.slice none 0 0), (.int .i64 0)] [] fun t19 => stsT 8 (.pointer (some ⟨b3, 0, none⟩)) t19 w6 fun w5 => ldsT 8 (.pointer (some ⟨b3, 0, none⟩)) w5 fun r6 => R (.tuple #[r6, (.bool false)]) w5 := by
    intro w6 E hr
    refine bld_of (cs := zeroM.toArray) rfl ?_
    refine En.sts' (vs := zeroM) [_] rfl E rfl rfl (fun u hu => List.all_eq_true.mp rfl u hu) (fun w9 E e9 => ?_)
    refine E.lds (.tail _ (.head _)) rfl ?_
    rw [hr] at hR
    exact hR _ _ _ _ _ _ E.toExt E.born E.mu.lim mown0
  refine E.lds (.tail _ (.tail _ (.tail _ (.head _)))) rfl ?_
  refine E.lds (.tail _ (.tail _ (.head _))) rfl ?_
  refine c_specHeapOk (hp.ext E.toExt) hpl hml (hh.ext E.toExt) (fun w6 e6 => ?_)
  replace E := E.ext e6
  replace hO := hO.ext e6
  (refine not_of ?_)
  refine condN_of (fun h1 => no E (by unfold movR; rw [h1]; rfl)) (fun h1 => ?_)
  (refine not_of ?_)
  refine condN_of (fun h2 => no E ?_) (fun h2 => ?_)
  · have : (progOk p && (inB r 1 4 && inB c 14 60)) = false := by
      unfold newR at h2
      split at h2
      · cases h2
      · rename_i h; simpa using h
    have hpo : progOk p = true := (hok_iff.mp h1).prog
    rw [hpo, Bool.true_and] at this
    unfold movR
    rw [this, Bool.and_false]; rfl
  have h3 : progOk p = true ∧ (inB r 1 4 && inB c 14 60) = true := by
    unfold newR at h2
    split at h2
    · rename_i h
      rwa [Bool.and_eq_true] at h
    · cases h2
  obtain ⟨hpo, h3⟩ := h3
  have he : movR p h r c = (moveInM h r.toNat c, true) := by unfold movR; rw [h1, h3]; rfl
  have hn : (newR p r c).1 = newM p r.toNat c := by unfold newR; rw [hpo, h3]; rfl
  rw [he] at hR
  rw [hn] at E hO
  clear no he hn
  rw [Bool.and_eq_true, inB_iff, inB_iff] at h3
  obtain ⟨k, rfl⟩ : ∃ k : Nat, r = k := ⟨r.toNat, by omega⟩
  rw [Int.toNat_natCast] at hR E hO
  have H := hok_iff.mp h1
  have SN := moveIn_sim H (cells := c) (rooms := k) (by omega) (by omega) h3.2.1 h3.2.2
  have NP := ((new_sim (cells := c) hpo (rooms := k) (by omega) (by omega) h3.2.1 h3.2.2).mok (newH_ok hpo)).plain
  have hlen : (0 : Int) < (newM p k c).pages.length := by rw [newM_len]; omega
  have kb := E.blk (.head _)
  obtain ⟨E, hlab⟩ := E.give []
  have O := hO.inL (q := []) (M := lab1 b5 [])
  have S : MM (joinL L [] (lab1 b5 [])) w6 b5 (newM p k c) up uo ut us := ⟨kb, hlab, O.pages.mapO (kd' := kPnO) (show kPnO.sz = kPn.sz from rfl) (fun i g es hx hK => by
    obtain ⟨u, rfl, hu⟩ := hK
    exact ⟨u, rfl, frames_given hu (NP g (List.mem_of_getElem? hx))⟩), O.order, O.twins, O.said, E.mu.lim⟩
  generalize joinL L [] (lab1 b5 []) = L1 at E S
  clear hO O kb hlab
  (refine fad_of ?_)
  refine ld_of (S.cell rfl) ?_
  refine E.bsl rfl rfl rfl (fun b7 w7 E e7 => ?_)
  replace S := S.ext e7
  refine S.pix (Int.le_refl 0) hlen (fun bp op uf F => ?_)
  have hb0 : (pnAt (newM p k c) 0).base = -1 := by rw [newM_pn (Int.le_refl 0) (by omega)]; rfl
  (refine fad_of ?_)
  refine MM.pst (q := 1) (i := 0) (g' := ⟨-1, []⟩) S F (Int.le_refl 0) hlen rfl (by decide) (by rw [hb0]; rfl) Sl.none0 (fun w8 e8 m8 S F => ?_)
  rw [newM_bare (by omega)] at S
  replace E := E.call m8
  clear F
  (refine fad_of ?_)
  refine E.ld (by (exact .tail _ (.tail _ (.head _)))) rfl ?_
  (refine fad_of ?_)
  refine S.stM (q := 5) (m' := { bareM k c with born := h.born }) rfl (by simp) rfl S.pages S.order S.twins S.said (fun w9 m9 _ S => ?_)
  replace E := E.call m9
  refine E.bsl rfl rfl rfl (fun b10 w10 E e10 => ?_)
  replace S := S.ext e10
  (refine fad_of ?_)
  refine E.ld (by (exact .tail _ (.tail _ (.tail _ (.head _))))) rfl ?_
  refine clone_of (by kernel_rfl) (E.any (q := []) hh.said) hh.ns (fun v11 w11 M11 e11 hb11 hl11 h11 => ?_)
  have g11 := Sl.inR (kd := kPair) (q := [3]) h11 (apart_of E.mu.lim hb11)
  replace E := E.join [3] e11 hb11 hl11
  replace S := (S.ext e11).join (q := [3]) hl11
  (refine fad_of ?_)
  refine S.stM (q := 6) (m' := { bareM k c with born := h.born, said := h.said }) g11.one (by simp) rfl S.pages S.order S.twins g11 (fun w12 m12 _ S => ?_)
  replace E := E.call m12
  (refine fad_of ?_)
  refine E.ld (by (exact .tail _ (.tail _ (.tail _ (.head _))))) rfl ?_
  (refine fad_of ?_)
  refine S.stM (q := 7) (m' := inS h k c 0) rfl (by simp) rfl S.pages S.order S.twins S.said (fun w13 m13 _ S => ?_)
  replace E := E.call m13
  have hnn := hh.n
  have E2 : ∃ l, En noL w _ w13 ((b10, []) :: (b7, []) :: (b3, zeroM) :: (b2, heapCells h uc uh) :: (b1, [u]) :: l) := ⟨[], E⟩
  refine loop_of (fun n s wx => ∃ (j : Nat) (vt : Value) (L : Lab), s = [.pointer (some ⟨b1, 0, none⟩), .pointer (some ⟨b2, 0, none⟩), .pointer (some ⟨b3, 0, none⟩), .bool false, .pointer (some ⟨b5, 0, none⟩), .int .i64 j] ∧ j + n = h.calls.length ∧
      En noL w L wx [(b10, []), (b7, []), (b3, zeroM), (b2, heapCells h uc uh), (b1, [u])] ∧ MM L wx b5 (inS h k c j) up uo vt v11) ?_ (m := h.calls.length)
    ⟨0, _, _, rfl, by omega, E, S⟩
  clear E S E2 g11 m13 m12 m9 m8
  rintro n s wx Kn ⟨j, vt, L, rfl, hj, E, S⟩ hKn
  intro _
  simp only [List.headD_cons, List.tail_cons]
  (refine fad_of ?_)
  refine E.ld (by (exact .tail _ (.tail _ (.tail _ (.head _))))) rfl ?_
  refine hh.calls.len_of ?_
  (refine lss_of ?_)
  refine condLt_of (fun hlt => ?_) (fun hge => ?_)
  · have hx : h.calls[j]? = some (callAt h.calls j) := by have := callAt_get (cs := h.calls) (i := (j : Int)) (by omega) (by omega); rwa [Int.toNat_natCast] at this
    have hnt := hh.nt _ (List.mem_of_getElem? hx)
    replace E := E.drew
    replace S := S.drew
    (refine fad_of ?_)
    refine ld_of (S.cell rfl) ?_
    (refine fad_of ?_)
    refine E.ld (by (exact .tail _ (.tail _ (.tail _ (.head _))))) rfl ?_
    refine call_ix hh.calls (i := (j : Int)) (by omega) hlt (fun b o u1 u2 hc hu1 hu2 => ?_)
    replace hc : Cells w b o (cellsC (callAt h.calls j) u1 u2) := hc
    refine lds_of (hc.ext E.toExt) rfl ?_
    refine c_l11Copy (hu1.ext E.toExt) (hu2.ext E.toExt) hnt.1 hnt.2 (fun w8 M8 u8 v8 e8 hb8 hl8 h8 g8 => ?_)
    have hap := apart_of E.mu.lim hb8
    replace h8 := h8.inR (q := [2, j]) hap
    replace g8 := g8.inR (q := [2, j]) hap
    replace E := E.join [2, j] e8 hb8 hl8
    replace S := (S.ext e8).join (q := [2, j]) hl8
    refine ⟨ld_of (S.cell rfl) rfl, ?_⟩
    refine bld_of fill_tw ?_
    refine E.bsl rfl rfl rfl (fun b9 w9 E e9 => ?_)
    replace S := S.ext e9
    refine ⟨ld_of (S.cell rfl) rfl, ?_⟩
    have hlen : (inS h k c j).twins.length = j := by
      show ((h.calls.take j).map twinOf).length = j
      rw [List.length_map, List.length_take]; omega
    refine grow_one (kd := kTw) (twinOf (callAt h.calls j)) (by kernel_rfl) S.twins (E.blk (.head _)) ⟨u8, v8, rfl, by rw [hlen]; exact h8.keepX e9, by rw [hlen]; exact g8.keepX e9⟩ rfl (by rw [hlen]; omega) S.lim (fun v10 w10 L10 g10 d10 h10 => ?_)
    replace S := S.growR (q := 2) g10 (fun h => by cases h) (fun h => by cases h) (fun _ => d10) (fun h => by cases h) (.inr (.inr (.inl rfl)))
    replace E := E.grow g10
    have e2 : (inS h k c (j + 1)).twins = (inS h k c j).twins ++ [twinOf (callAt h.calls j)] := by
      show (h.calls.take (j + 1)).map twinOf = (h.calls.take j).map twinOf ++ [_]
      rw [List.take_add_one, hx, List.map_append]; rfl
    (refine fad_of ?_)
    refine S.stM (q := 4) (m' := inS h k c (j + 1)) h10.one (by simp) rfl S.pages S.order (by rw [e2]; exact h10) S.said (fun w11 m11 _ S => ?_)
    replace E := E.call m11
    (refine add_of (by (omega)) (by (omega)) ?_)
    exact hKn (n - 1) _ _ (by omega) ⟨j + 1, v10, L10, rfl, by omega, E.pop, S⟩
  · intro _
    rw [inS_all (by omega)] at S
    have hP : Plain (inM h k c) := by rw [← inS_all (h := h) (k := h.calls.length) (Nat.le_refl _)]; exact inS_plain
    refine E.lds (by (exact .tail _ (.tail _ (.tail _ (.tail _ (.head _)))))) rfl ?_
    refine lds_of S.blk.cells rfl ?_
    refine bld_of fill_w ?_
    refine box_of' (fun bw w14 e14 hb14 k14 => ?_)
    replace k14 : Blk w14 bw ([u] ++ machCells (inM h k c) up uo vt v11) := k14
    have hl14 := k14.lt
    have hap := apart_of E.mu.lim (lab1_born (p := []) hb14)
    replace E := E.join [] e14 (lab1_born (p := []) hb14) (lab1_lim (p := []) hl14)
    have hlab : joinL L [] (lab1 bw []) bw = some [] := joinL_right (by simp [lab1]) (hap bw [] (by simp [lab1]))
    replace S := (S.ext e14).join (q := []) (lab1_lim (p := []) hl14)
    have W : MM (joinL L [] (lab1 bw [])) w14 bw (inM h k c) up uo vt v11 [u] := ⟨k14, hlab, S.pages, S.order, S.twins, S.said, S.lim⟩
    clear S hlab k14
    generalize joinL L [] (lab1 bw []) = L14 at E W
    have out : ∀ {L : Lab} {wx : World} {M : Mc} {vp vo vt vs : Value}, En noL w L wx [(b10, []), (b7, []), (b3, zeroM), (b2, heapCells h uc uh), (b1, [u])] → MM L wx bw M vp vo vt vs [u] → M = moveInM h k c →
        ldsT 8 (.pointer (some ⟨bw, 1, none⟩)) wx fun t => stsT 8 (.pointer (some ⟨b3, 0, none⟩)) t wx fun w' => ldsT 8 (.pointer (some ⟨b3, 0, none⟩)) w' fun r => R (.tuple #[r, .bool true]) w' := by
      intro L wx M vp vo vt vs E S he
      subst he
      refine lds_of (cs := machCells (moveInM h k c) vp vo vt vs) (S.blk.cells.part 1 8 rfl) rfl ?_
      have O : MOwn L wx (moveInM h k c) vp vo vt vs :=
        ⟨S.pages.mapO (kd' := kPn) (show kPn.sz = kPnO.sz from rfl) (fun j g es hx hK => by
          obtain ⟨u, rfl, hu⟩ := hK
          exact ⟨u, rfl, frames_taken hu ((SN.mok H).plain g (List.mem_of_getElem? hx))⟩), S.order, S.twins, S.said⟩
      refine En.sts' (vs := machCells (moveInM h k c) vp vo vt vs) [_, _] rfl E rfl rfl O.one (fun w12 E e12 => ?_)
      refine E.lds (.tail _ (.tail _ (.head _))) rfl ?_
      exact hR _ _ _ _ _ _ E.toExt E.born E.mu.lim (O.loc e12)
    (refine fad_of ?_)
    refine E.ld (by (exact .tail _ (.tail _ (.tail _ (.head _))))) rfl ?_
    (refine lss_of ?_)
    refine condLt_of (fun h0 => ?_) (fun h0 => ?_)
    · (refine nil_of ?_)
      (refine fad_of ?_)
      (refine fad_of ?_)
      refine W.stM (q := 4) (m' := { inM h k c with now := -1 }) rfl (by simp) rfl W.pages W.order W.twins W.said (fun w15 m15 _ W => ?_)
      (refine nil_of ?_)
      (refine fad_of ?_)
      refine out (E.call m15) W ?_
      unfold moveInM
      rw [if_pos h0]
    · have h3' := H.now2
      have hf := H.at h0 h3'
      (refine fad_of ?_)
      refine E.ld (by (exact .tail _ (.tail _ (.tail _ (.head _))))) rfl ?_
      refine c_specLoad W (Int.le_refl 0) (by show (0 : Int) < ((List.replicate k (⟨-1, []⟩ : Pn)).length : Nat); rw [List.length_replicate]; omega) h0 (by show h.now < ((h.calls.map twinOf).length : Nat); rw [List.length_map]; omega) ?_ (fun w15 L15 m15 W => ?_)
      · have e9 : twAt (inM h k c) h.now = twinOf (callAt h.calls h.now) := inM_tw (h := h) (rooms := k) (cells := c) h0 h3'
        rw [e9]
        have := hf.m0
        show (callAt h.calls h.now).method ≠ -1
        omega
      (refine nil_of ?_)
      (refine fad_of ?_)
      refine out (E.call m15) W ?_
      unfold moveInM
      rw [if_neg (by omega)]
end
end Go.PT
namespace Go.PT
open Go.Proofs
def Flaws_lmMach.l1 (x2 x3 x4 x5 : Value) (w : World) (Kn Kb Kr : LW) : Prop := ∀ _ : Env,
  fadT 1 x2 fun t68 =>
  ldT t68 w fun t69 =>
  lenT t69 fun t70 =>
  binT .lss x5 t70 fun t71 =>
  condT t71
  (fadT 1 x2 fun t74 =>
  ldT t74 (w.drew) fun t75 =>
  ixaT 2 t75 x5 fun t77 =>
  fadT 0 t77 fun t78 =>
  ldT t78 (w.drew) fun t79 =>
  fadT 1 x3 fun t80 =>
  ldT t80 (w.drew) fun t81 =>
  ixaT 2 t81 x5 fun t83 =>
  fadT 0 t83 fun t84 =>
  ldT t84 (w.drew) fun t85 =>
  binT .neq t79 t85 fun t86 =>
  condT t86
  (Kr [x2, x3, (.bool false), x5] (w.drew))
  (fadT 1 x2 fun t88 =>
  ldT t88 (w.drew) fun t89 =>
  ixaT 2 t89 x5 fun t91 =>
  fadT 1 t91 fun t92 =>
  ldT t92 (w.drew) fun t93 =>
  fadT 1 x3 fun t94 =>
  ldT t94 (w.drew) fun t95 =>
  ixaT 2 t95 x5 fun t97 =>
  fadT 1 t97 fun t98 =>
  ldT t98 (w.drew) fun t99 =>
  clT PR 107 [t93, t99] (w.drew) fun t100 w5 =>
  notT t100 fun t101 =>
  condT t101
  (Kr [x2, x3, (.bool false), x5] w5)
  (binT .add x5 (.int .i64 1) fun t73 =>
  Kn [x2, x3, x4, t73] w5)))
  (Kb [x2, x3, x4, x5] w)
def Flaws_lmMach.l3 (x2 x3 x4 x6 : Value) (w : World) (Kn Kb Kr : LW) : Prop := ∀ _ : Env,
  fadT 4 x2 fun t104 =>
  ldT t104 w fun t105 =>
  lenT t105 fun t106 =>
  binT .lss x6 t106 fun t107 =>
  condT t107
  (fadT 4 x2 fun t110 =>
  ldT t110 (w.drew) fun t111 =>
  ixaT 8 t111 x6 fun t113 =>
  fadT 0 t113 fun t114 =>
  ldT t114 (w.drew) fun t115 =>
  fadT 4 x3 fun t116 =>
  ldT t116 (w.drew) fun t117 =>
  ixaT 8 t117 x6 fun t119 =>
  fadT 0 t119 fun t120 =>
  ldT t120 (w.drew) fun t121 =>
  binT .neq t115 t121 fun t122 =>
  condT t122
  (Kr [x2, x3, (.bool false), x6] (w.drew))
  (fadT 4 x2 fun t124 =>
  ldT t124 (w.drew) fun t125 =>
  ixaT 8 t125 x6 fun t127 =>
  fadT 1 t127 fun t128 =>
  ldT t128 (w.drew) fun t129 =>
  fadT 4 x3 fun t130 =>
  ldT t130 (w.drew) fun t131 =>
  ixaT 8 t131 x6 fun t133 =>
  fadT 1 t133 fun t134 =>
  ldT t134 (w.drew) fun t135 =>
  binT .neq t129 t135 fun t136 =>
  condT t136
  (Kr [x2, x3, (.bool false), x6] (w.drew))
  (fadT 4 x2 fun t139 =>
  ldT t139 (w.drew) fun t140 =>
  ixaT 8 t140 x6 fun t142 =>
  fadT 2 t142 fun t143 =>
  ldsT 6 t143 (w.drew) fun t144 =>
  fadT 4 x3 fun t145 =>
  ldT t145 (w.drew) fun t146 =>
  ixaT 8 t146 x6 fun t148 =>
  fadT 2 t148 fun t149 =>
  ldsT 6 t149 (w.drew) fun t150 =>
  clT PR 108 [t144, t150] (w.drew) fun t151 w6 =>
  notT t151 fun t152 =>
  condT t152
  (Kr [x2, x3, (.bool false), x6] w6)
  (binT .add x6 (.int .i64 1) fun t109 =>
  Kn [x2, x3, x4, t109] w6))))
  (Kb [x2, x3, x4, x6] w)
def Flaws_lmMach.k4 (x2 x3 x4 x6 : Value) (w : World) (R : VW) : Prop := ∀ _ : Env,
  R (.bool true) w
def Flaws_lmMach.r5 (x2 x3 x4 x6 : Value) (w : World) (R : VW) : Prop := ∀ _ : Env,
  R x4 w
def Flaws_lmMach.k2 (x2 x3 x4 x5 : Value) (w : World) (R : VW) : Prop := ∀ _ : Env,
  loopT (fun s w Kn Kb Kr => Flaws_lmMach.l3 (s.headD undef) (s.tail.headD undef) (s.tail.tail.headD undef) (s.tail.tail.tail.headD undef) w Kn Kb Kr) [x2, x3, x4, (.int .i64 0)] w
  (fun s w => Flaws_lmMach.k4 (s.headD undef) (s.tail.headD undef) (s.tail.tail.headD undef) (s.tail.tail.tail.headD undef) w R)
  (fun s w => Flaws_lmMach.r5 (s.headD undef) (s.tail.headD undef) (s.tail.tail.headD undef) (s.tail.tail.tail.headD undef) w R)
def Flaws_lmMach.r6 (x2 x3 x4 x5 : Value) (w : World) (R : VW) : Prop := ∀ _ : Env,
  R x4 w
def Flaws_lmMach (t0 t1 : Value) (w : World) (R : VW) : Prop :=
  boxT 37 t0 w fun t2 w1 =>
  boxT 37 t1 w1 fun t3 w2 =>
  fadT 0 t2 fun t7 =>
  ldT t7 w2 fun t8 =>
  fadT 0 t3 fun t9 =>
  ldT t9 w2 fun t10 =>
  binT .neq t8 t10 fun t11 =>
  condT t11
  (R (.bool false) w2)
  (fadT 3 t2 fun t13 =>
  ldT t13 w2 fun t14 =>
  fadT 3 t3 fun t15 =>
  ldT t15 w2 fun t16 =>
  binT .neq t14 t16 fun t17 =>
  condT t17
  (R (.bool false) w2)
  (fadT 5 t2 fun t20 =>
  ldT t20 w2 fun t21 =>
  fadT 5 t3 fun t22 =>
  ldT t22 w2 fun t23 =>
  binT .neq t21 t23 fun t24 =>
  condT t24
  (R (.bool false) w2)
  (fadT 7 t2 fun t27 =>
  ldT t27 w2 fun t28 =>
  fadT 7 t3 fun t29 =>
  ldT t29 w2 fun t30 =>
  binT .neq t28 t30 fun t31 =>
  condT t31
  (R (.bool false) w2)
  (fadT 2 t2 fun t34 =>
  ldT t34 w2 fun t35 =>
  fadT 2 t3 fun t36 =>
  ldT t36 w2 fun t37 =>
  clT PR 106 [t35, t37] w2 fun t38 w3 =>
  notT t38 fun t39 =>
  condT t39
  (R (.bool false) w3)
  (fadT 6 t2 fun t42 =>
  ldT t42 w3 fun t43 =>
  fadT 6 t3 fun t44 =>
  ldT t44 w3 fun t45 =>
  clT PR 52 [t43, t45] w3 fun t46 w4 =>
  notT t46 fun t47 =>
  condT t47
  (R (.bool false) w4)
  (fadT 1 t2 fun t50 =>
  ldT t50 w4 fun t51 =>
  lenT t51 fun t52 =>
  fadT 1 t3 fun t53 =>
  ldT t53 w4 fun t54 =>
  lenT t54 fun t55 =>
  binT .neq t52 t55 fun t56 =>
  condT t56
  (R (.bool false) w4)
  (fadT 4 t2 fun t59 =>
  ldT t59 w4 fun t60 =>
  lenT t60 fun t61 =>
  fadT 4 t3 fun t62 =>
  ldT t62 w4 fun t63 =>
  lenT t63 fun t64 =>
  binT .neq t61 t64 fun t65 =>
  condT t65
  (R (.bool false) w4)
  (loopT (fun s w Kn Kb Kr => Flaws_lmMach.l1 (s.headD undef) (s.tail.headD undef) (s.tail.tail.headD undef) (s.tail.tail.tail.headD undef) w Kn Kb Kr) [t2, t3, (.bool false), (.int .i64 0)] w4
  (fun s w => Flaws_lmMach.k2 (s.headD undef) (s.tail.headD undef) (s.tail.tail.headD undef) (s.tail.tail.tail.headD undef) w R)
  (fun s w => Flaws_lmMach.r6 (s.headD undef) (s.tail.headD undef) (s.tail.tail.headD undef) (s.tail.tail.tail.headD undef) w R)))))))))
def Flaws_lmMach.H : Hints := {draw := fun i => match i with | 6 => { T := [0, 1, 0, 7, 15, 31, 0, 64, 0, 448, 960, 1984, 4095, 8191, 16383, 32767, 16383, 131071, 262143, 524287, 16383, 1064959, 16383, 7356415, 15745023, 32522239, 67108863, 134217727, 268435455] } | 11 => { T := [0, 1, 0, 7, 15, 31, 0, 64, 0, 448, 960, 1984, 4095, 8191, 16383, 32767, 16383, 131071, 262143, 524287, 16383, 1064959, 16383, 7356415, 15745023, 32522239, 67108863, 134217727, 268435455, 536870911, 1073741823, 536870911, 4294967295, 8589934591, 17179869183, 536870911, 34896609279, 536870911, 241055039487, 515932946431, 1065688760319, 2199023255551, 4398046511103, 8796093022207] } | _ => {}, loop := fun i => match i with | 4 => some (0, [2, 3, 4, 5]) | 9 => some (2, [2, 3, 4, 6]) | _ => none}
theorem Flaws_lmMach.eq (t0 t1 : Value) : trF PR CX Flaws_lmMach.H Tryz.f36 [t0, t1] = Flaws_lmMach t0 t1 := by kernel_rfl
theorem Flaws_lmMach.cl {t0 t1 : Value} {w : World} {R : VW} (h : Flaws_lmMach t0 t1 w R) : clT PR 36 [t0, t1] w R := cl_of_tr (H := Flaws_lmMach.H) ctxOk Tryz.func36 rfl (by rw [Flaws_lmMach.eq]; exact h)
def Flaws_lmInts.l1 (x0 x1 x4 x5 : Value) (w : World) (Kn Kb Kr : LW) : Prop := ∀ _ : Env,
  lenT x0 fun t13 =>
  binT .lss x5 t13 fun t14 =>
  condT t14
  (ixaT 1 x0 x5 fun t19 =>
  ldT t19 (w.drew) fun t20 =>
  ixaT 1 x1 x5 fun t23 =>
  ldT t23 (w.drew) fun t24 =>
  binT .neq t20 t24 fun t25 =>
  condT t25
  (Kr [x0, x1, (.bool false), x5] (w.drew))
  (binT .add x5 (.int .i64 1) fun t16 =>
  Kn [x0, x1, x4, t16] (w.drew)))
  (Kb [x0, x1, x4, x5] w)
def Flaws_lmInts.k2 (x0 x1 x4 x5 : Value) (w : World) (R : VW) : Prop := ∀ _ : Env,
  R (.bool true) w
def Flaws_lmInts.r3 (x0 x1 x4 x5 : Value) (w : World) (R : VW) : Prop := ∀ _ : Env,
  R x4 w
def Flaws_lmInts (t0 t1 : Value) (w : World) (R : VW) : Prop :=
  lenT t0 fun t7 =>
  lenT t1 fun t9 =>
  binT .neq t7 t9 fun t10 =>
  condT t10
  (R (.bool false) w)
  (loopT (fun s w Kn Kb Kr => Flaws_lmInts.l1 (s.headD undef) (s.tail.headD undef) (s.tail.tail.headD undef) (s.tail.tail.tail.headD undef) w Kn Kb Kr) [t0, t1, (.bool false), (.int .i64 0)] w
  (fun s w => Flaws_lmInts.k2 (s.headD undef) (s.tail.headD undef) (s.tail.tail.headD undef) (s.tail.tail.tail.headD undef) w R)
  (fun s w => Flaws_lmInts.r3 (s.headD undef) (s.tail.headD undef) (s.tail.tail.headD undef) (s.tail.tail.tail.headD undef) w R))
def Flaws_lmInts.H : Hints := {draw := fun i => match i with | 6 => { T := [0, 0, 3, 7, 0, 0, 48, 112, 255] } | _ => {}, loop := fun i => match i with | 4 => some (0, [0, 1, 4, 5]) | _ => none}
theorem Flaws_lmInts.eq (t0 t1 : Value) : trF PR CX Flaws_lmInts.H Tryz.f106 [t0, t1] = Flaws_lmInts t0 t1 := by kernel_rfl
theorem Flaws_lmInts.cl {t0 t1 : Value} {w : World} {R : VW} (h : Flaws_lmInts t0 t1 w R) : clT PR 106 [t0, t1] w R := cl_of_tr (H := Flaws_lmInts.H) ctxOk Tryz.func106 rfl (by rw [Flaws_lmInts.eq]; exact h)
def Flaws_lmFrames.l1 (x0 x1 x4 x5 : Value) (w : World) (Kn Kb Kr : LW) : Prop := ∀ _ : Env,
  lenT x0 fun t13 =>
  binT .lss x5 t13 fun t14 =>
  condT t14
  (ixaT 5 x0 x5 fun t19 =>
  fadT 0 t19 fun t20 =>
  ldT t20 (w.drew) fun t21 =>
  ixaT 5 x1 x5 fun t24 =>
  fadT 0 t24 fun t25 =>
  ldT t25 (w.drew) fun t26 =>
  binT .neq t21 t26 fun t27 =>
  condT t27
  (Kr [x0, x1, (.bool false), x5] (w.drew))
  (ixaT 5 x0 x5 fun t31 =>
  fadT 1 t31 fun t32 =>
  ldT t32 (w.drew) fun t33 =>
  ixaT 5 x1 x5 fun t36 =>
  fadT 1 t36 fun t37 =>
  ldT t37 (w.drew) fun t38 =>
  binT .neq t33 t38 fun t39 =>
  condT t39
  (Kr [x0, x1, (.bool false), x5] (w.drew))
  (ixaT 5 x0 x5 fun t44 =>
  fadT 2 t44 fun t45 =>
  ldT t45 (w.drew) fun t46 =>
  ixaT 5 x1 x5 fun t49 =>
  fadT 2 t49 fun t50 =>
  ldT t50 (w.drew) fun t51 =>
  binT .neq t46 t51 fun t52 =>
  condT t52
  (Kr [x0, x1, (.bool false), x5] (w.drew))
  (ixaT 5 x0 x5 fun t57 =>
  fadT 3 t57 fun t58 =>
  ldT t58 (w.drew) fun t59 =>
  ixaT 5 x1 x5 fun t62 =>
  fadT 3 t62 fun t63 =>
  ldT t63 (w.drew) fun t64 =>
  clT PR 52 [t59, t64] (w.drew) fun t65 w1 =>
  notT t65 fun t66 =>
  condT t66
  (Kr [x0, x1, (.bool false), x5] w1)
  (ixaT 5 x0 x5 fun t71 =>
  fadT 4 t71 fun t72 =>
  ldT t72 w1 fun t73 =>
  ixaT 5 x1 x5 fun t76 =>
  fadT 4 t76 fun t77 =>
  ldT t77 w1 fun t78 =>
  clT PR 52 [t73, t78] w1 fun t79 w2 =>
  notT t79 fun t80 =>
  condT t80
  (Kr [x0, x1, (.bool false), x5] w2)
  (binT .add x5 (.int .i64 1) fun t16 =>
  Kn [x0, x1, x4, t16] w2))))))
  (Kb [x0, x1, x4, x5] w)
def Flaws_lmFrames.k2 (x0 x1 x4 x5 : Value) (w : World) (R : VW) : Prop := ∀ _ : Env,
  R (.bool true) w
def Flaws_lmFrames.r3 (x0 x1 x4 x5 : Value) (w : World) (R : VW) : Prop := ∀ _ : Env,
  R x4 w
def Flaws_lmFrames (t0 t1 : Value) (w : World) (R : VW) : Prop :=
  lenT t0 fun t7 =>
  lenT t1 fun t9 =>
  binT .neq t7 t9 fun t10 =>
  condT t10
  (R (.bool false) w)
  (loopT (fun s w Kn Kb Kr => Flaws_lmFrames.l1 (s.headD undef) (s.tail.headD undef) (s.tail.tail.headD undef) (s.tail.tail.tail.headD undef) w Kn Kb Kr) [t0, t1, (.bool false), (.int .i64 0)] w
  (fun s w => Flaws_lmFrames.k2 (s.headD undef) (s.tail.headD undef) (s.tail.tail.headD undef) (s.tail.tail.tail.headD undef) w R)
  (fun s w => Flaws_lmFrames.r3 (s.headD undef) (s.tail.headD undef) (s.tail.tail.headD undef) (s.tail.tail.tail.headD undef) w R))
def Flaws_lmFrames.H : Hints := {draw := fun i => match i with | 6 => { T := [0, 0, 3, 7, 15, 0, 0, 96, 224, 480, 1023, 2047, 4095, 4095, 16383, 32767, 65535, 4095, 4095, 397311, 921599, 1970175, 4194303, 8388607, 16777215, 33554431, 33554431, 134217727, 268435455, 536870911, 33554431, 33554431, 3254779903, 7549747199, 16139681791, 34359738367, 68719476735, 137438953471, 274877906943, 274877906943, 1099511627775, 2199023255551, 4398046511103, 274877906943, 274877906943, 26663156973567, 61847529062399, 132216273240063, 281474976710655, 562949953421311, 1125899906842623, 2251799813685247, 4503599627370495, 4503599627370495, 18014398509481983, 36028797018963967, 72057594037927935, 4503599627370495, 4503599627370495, 436849163854938111, 1013309916158361599, 2166231420765208575, 4611686018427387903, 9223372036854775807, 18446744073709551615] } | _ => {}, loop := fun i => match i with | 4 => some (0, [0, 1, 4, 5]) | _ => none}
theorem Flaws_lmFrames.eq (t0 t1 : Value) : trF PR CX Flaws_lmFrames.H Tryz.f107 [t0, t1] = Flaws_lmFrames t0 t1 := by kernel_rfl
theorem Flaws_lmFrames.cl {t0 t1 : Value} {w : World} {R : VW} (h : Flaws_lmFrames t0 t1 w R) : clT PR 107 [t0, t1] w R := cl_of_tr (H := Flaws_lmFrames.H) ctxOk Tryz.func107 rfl (by rw [Flaws_lmFrames.eq]; exact h)
end Go.PT
namespace Go.PT
attribute [local irreducible] ldT ldsT stT stsT allocT boxT bldT bslT nilT fadT ixaT fldT extT lenT pickT binT notT cviT opT opU condT clT clvT ivT loopT arT ndT World.cell? World.frozen? World.alloc World.drew World.setCell Blk Cells Sl
theorem c_lmInts {l : List Int} {u v : Value} {w : World} {R : VW} (hu : Sl kInt Any w [] l u) (hv : Sl kInt Any w [] l v) (hl : l.length ≤ 1073741824) (hR : ∀ w', Ext w w' → R (.bool true) w') : clT PR 106 [u, v] w R := by
  refine Flaws_lmInts.cl ?_
  unfold Flaws_lmInts
  refine hu.len_of ?_
  refine hv.len_of ?_
  (refine neq_of ?_)
  refine condP_of (fun hne => absurd rfl hne) (fun _ => ?_)
  refine loop_of (fun m s wx => ∃ (i : Nat), s = [u, v, .bool false, .int .i64 i] ∧ i + m = l.length ∧ Ext w wx) ?_ (m := l.length) ⟨0, rfl, by omega, Fr.refl _ _⟩
  rintro m s wx Kn ⟨i, rfl, hi, e⟩ hKn
  intro _
  simp only [List.headD_cons, List.tail_cons]
  refine (hu.ext e).len_of ?_
  (refine lss_of ?_)
  refine condLt_of (fun hc => ?_) (fun hc => ?_)
  · have e' := e.drew
    refine int_ix (i := (i : Int)) (hu.ext e) (by omega) (by omega) (fun b o hcell => ?_)
    refine ld_of (cell_drew hcell) ?_
    refine int_ix (i := (i : Int)) (hv.ext e) (by omega) (by omega) (fun b' o' hcell' => ?_)
    refine ld_of (cell_drew hcell') ?_
    (refine neq_of ?_)
    refine condP_of (fun hne => absurd rfl hne) (fun _ => ?_)
    (refine add_of (by (omega)) (by (omega)) ?_)
    exact hKn (m - 1) _ _ (by omega) ⟨i + 1, rfl, by omega, e'⟩
  · intro _
    exact hR _ e
theorem c_lmFrames {fs : List Fm} {u v : Value} {w : World} {R : VW} (hu : Sl kFm Any w [] fs u) (hv : Sl kFm Any w [] fs v) (hl : fs.length ≤ 1073741824) (hn : ∀ f ∈ fs, f.temps.length ≤ 1073741824 ∧ f.stack.length ≤ 1073741824)
    (hR : ∀ w', Ext w w' → R (.bool true) w') : clT PR 107 [u, v] w R := by
  refine Flaws_lmFrames.cl ?_
  unfold Flaws_lmFrames
  refine hu.len_of ?_
  refine hv.len_of ?_
  (refine neq_of ?_)
  refine condP_of (fun hne => absurd rfl hne) (fun _ => ?_)
  refine loop_of (fun m s wx => ∃ (i : Nat), s = [u, v, .bool false, .int .i64 i] ∧ i + m = fs.length ∧ Ext w wx) ?_ (m := fs.length) ⟨0, rfl, by omega, Fr.refl _ _⟩
  rintro m s wx Kn ⟨i, rfl, hi, e⟩ hKn
  intro _
  simp only [List.headD_cons, List.tail_cons]
  refine (hu.ext e).len_of ?_
  (refine lss_of ?_)
  refine condLt_of (fun hc => ?_) (fun hc => ?_)
  · have e' : Ext w wx.drew := e.drew
    have hm := hn _ (List.mem_of_getElem? (fm_get (fs := fs) (k := (i : Int)) (by omega) (by omega)))
    refine fm_ix hu (i := (i : Int)) (by omega) (by omega) (fun b o ut us hcell ht hs => ?_)
    (refine fad_of ?_)
    refine ld_of ((hcell.ext e').at 0 rfl) ?_
    refine fm_ix hv (i := (i : Int)) (by omega) (by omega) (fun b' o' ut' us' hcell' ht' hs' => ?_)
    (refine fad_of ?_)
    refine ld_of ((hcell'.ext e').at 0 rfl) ?_
    (refine neq_of ?_)
    refine condP_of (fun hne => absurd rfl hne) (fun _ => ?_)
    refine fm_ix hu (i := (i : Int)) (by omega) (by omega) (fun b o ut us hcell ht hs => ?_)
    (refine fad_of ?_)
    refine ld_of ((hcell.ext e').at 1 rfl) ?_
    refine fm_ix hv (i := (i : Int)) (by omega) (by omega) (fun b' o' ut' us' hcell' ht' hs' => ?_)
    (refine fad_of ?_)
    refine ld_of ((hcell'.ext e').at 1 rfl) ?_
    (refine neq_of ?_)
    refine condP_of (fun hne => absurd rfl hne) (fun _ => ?_)
    refine fm_ix hu (i := (i : Int)) (by omega) (by omega) (fun b o ut us hcell ht hs => ?_)
    (refine fad_of ?_)
    refine ld_of ((hcell.ext e').at 2 rfl) ?_
    refine fm_ix hv (i := (i : Int)) (by omega) (by omega) (fun b' o' ut' us' hcell' ht' hs' => ?_)
    (refine fad_of ?_)
    refine ld_of ((hcell'.ext e').at 2 rfl) ?_
    (refine neq_of ?_)
    refine condP_of (fun hne => absurd rfl hne) (fun _ => ?_)
    refine fm_ix hu (i := (i : Int)) (by omega) (by omega) (fun b o ut us hcell ht hs => ?_)
    (refine fad_of ?_)
    refine ld_of ((hcell.ext e').at 3 rfl) ?_
    refine fm_ix hv (i := (i : Int)) (by omega) (by omega) (fun b' o' ut' us' hcell' ht' hs' => ?_)
    (refine fad_of ?_)
    refine ld_of ((hcell'.ext e').at 3 rfl) ?_
    refine c_lmVals (ht.ext e') (ht'.ext e') hm.1 (fun w3 e3 => ?_)
    have e3' := e'.trans e3
    (refine not_of ?_)
    refine condN_of (fun h => nomatch h) (fun _ => ?_)
    refine fm_ix hu (i := (i : Int)) (by omega) (by omega) (fun b o ut us hcell ht hs => ?_)
    (refine fad_of ?_)
    refine ld_of ((hcell.ext e3').at 4 rfl) ?_
    refine fm_ix hv (i := (i : Int)) (by omega) (by omega) (fun b' o' ut' us' hcell' ht' hs' => ?_)
    (refine fad_of ?_)
    refine ld_of ((hcell'.ext e3').at 4 rfl) ?_
    refine c_lmVals (hs.ext e3') (hs'.ext e3') hm.2 (fun w4 e4 => ?_)
    (refine not_of ?_)
    refine condN_of (fun h => nomatch h) (fun _ => ?_)
    (refine add_of (by (omega)) (by (omega)) ?_)
    exact hKn (m - 1) _ _ (by omega) ⟨i + 1, rfl, by omega, e3'.trans e4⟩
  · intro _
    exact hR _ e
theorem c_lmMach {m : Mc} {w : World} {up uo ut us vp vo vt vs : Value} {R : VW} (hu : MachV w m up uo ut us) (hv : MachV w m vp vo vt vs) (B : MB m) (hR : ∀ w', Ext w w' → R (.bool true) w') : clT PR 36 [.agg (machCells m up uo ut us).toArray, .agg (machCells m vp vo vt vs).toArray] w R := by
  refine Flaws_lmMach.cl ?_
  unfold Flaws_lmMach
  have hBs := B.ns
  have hBo := B.no
  have hBp := B.np
  have hBt := B.nt.1
  have E := En.start w
  refine E.box (fun b1 w1 E _ => ?_)
  refine E.box (fun b2 w2 E _ => ?_)
  iterate 4
    (refine fad_of ?_)
    refine E.ld (.tail _ (.head _)) rfl ?_
    (refine fad_of ?_)
    refine E.ld (.head _) rfl ?_
    (refine neq_of ?_)
    refine condP_of (fun hne => absurd rfl hne) (fun _ => ?_)
  (refine fad_of ?_)
  refine E.ld (.tail _ (.head _)) rfl ?_
  (refine fad_of ?_)
  refine E.ld (.head _) rfl ?_
  refine c_lmInts (hu.order.ext E.toExt) (hv.order.ext E.toExt) (by omega) (fun w3 e3 => ?_)
  replace E := E.ext e3
  (refine not_of ?_)
  refine condN_of (fun h => nomatch h) (fun _ => ?_)
  (refine fad_of ?_)
  refine E.ld (.tail _ (.head _)) rfl ?_
  (refine fad_of ?_)
  refine E.ld (.head _) rfl ?_
  refine c_lmVals (hu.said.ext E.toExt) (hv.said.ext E.toExt) (by omega) (fun w4 e4 => ?_)
  replace E := E.ext e4
  (refine not_of ?_)
  refine condN_of (fun h => nomatch h) (fun _ => ?_)
  (refine fad_of ?_)
  refine E.ld (.tail _ (.head _)) rfl ?_
  refine hu.pages.len_of ?_
  (refine fad_of ?_)
  refine E.ld (.head _) rfl ?_
  refine hv.pages.len_of ?_
  (refine neq_of ?_)
  refine condP_of (fun hne => absurd rfl hne) (fun _ => ?_)
  (refine fad_of ?_)
  refine E.ld (.tail _ (.head _)) rfl ?_
  refine hu.twins.len_of ?_
  (refine fad_of ?_)
  refine E.ld (.head _) rfl ?_
  refine hv.twins.len_of ?_
  (refine neq_of ?_)
  refine condP_of (fun hne => absurd rfl hne) (fun _ => ?_)
  refine loop_of (fun n s wx => ∃ (i : Nat), s = [.pointer (some ⟨b1, 0, none⟩), .pointer (some ⟨b2, 0, none⟩), .bool false, .int .i64 i] ∧ i + n = m.pages.length ∧ En noL w noL wx [(b2, machCells m vp vo vt vs), (b1, machCells m up uo ut us)]) ?_ (m := m.pages.length) ⟨0, rfl, by omega, E⟩
  clear E
  rintro n s wx Kn ⟨i, rfl, hi, E⟩ hKn
  intro _
  simp only [List.headD_cons, List.tail_cons]
  (refine fad_of ?_)
  refine E.ld (.tail _ (.head _)) rfl ?_
  refine hu.pages.len_of ?_
  (refine lss_of ?_)
  refine condLt_of (fun hc => ?_) (fun hc => ?_)
  · replace E := E.drew
    have hg := B.nf _ (List.mem_of_getElem? (pn_get (m := m) (i := (i : Int)) (by omega) hc))
    (refine fad_of ?_)
    refine E.ld (.tail _ (.head _)) rfl ?_
    refine pn_ix hu.pages (i := (i : Int)) (by omega) hc (fun b o uf hcell hf => ?_)
    (refine fad_of ?_)
    refine ld_of ((hcell.ext E.toExt).at 0 rfl) ?_
    (refine fad_of ?_)
    refine E.ld (.head _) rfl ?_
    refine pn_ix hv.pages (i := (i : Int)) (by omega) hc (fun b o uf hcell hf => ?_)
    (refine fad_of ?_)
    refine ld_of ((hcell.ext E.toExt).at 0 rfl) ?_
    (refine neq_of ?_)
    refine condP_of (fun hne => absurd rfl hne) (fun _ => ?_)
    (refine fad_of ?_)
    refine E.ld (.tail _ (.head _)) rfl ?_
    refine pn_ix hu.pages (i := (i : Int)) (by omega) hc (fun b o uf hcell hf => ?_)
    (refine fad_of ?_)
    refine ld_of ((hcell.ext E.toExt).at 1 rfl) ?_
    (refine fad_of ?_)
    refine E.ld (.head _) rfl ?_
    refine pn_ix hv.pages (i := (i : Int)) (by omega) hc (fun b' o' uf' hcell' hf' => ?_)
    (refine fad_of ?_)
    refine ld_of ((hcell'.ext E.toExt).at 1 rfl) ?_
    refine c_lmFrames (hf.ext E.toExt) (hf'.ext E.toExt) (by have := hg.1; show (pnAt m i).frames.length ≤ _; omega) (fun f hf => by have := hg.2 f hf; omega) (fun w5 e5 => ?_)
    replace E := E.ext e5
    (refine not_of ?_)
    refine condN_of (fun h => nomatch h) (fun _ => ?_)
    (refine add_of (by (omega)) (by (omega)) ?_)
    exact hKn (n - 1) _ _ (by omega) ⟨i + 1, rfl, by omega, E⟩
  · intro _
    refine loop_of (fun n s wx => ∃ (i : Nat), s = [.pointer (some ⟨b1, 0, none⟩), .pointer (some ⟨b2, 0, none⟩), .bool false, .int .i64 i] ∧ i + n = m.twins.length ∧ En noL w noL wx [(b2, machCells m vp vo vt vs), (b1, machCells m up uo ut us)]) ?_ (m := m.twins.length) ⟨0, rfl, by omega, E⟩
    clear E
    rintro n' s wy Ko ⟨k, rfl, hk, E⟩ hKo
    intro _
    simp only [List.headD_cons, List.tail_cons]
    (refine fad_of ?_)
    refine E.ld (.tail _ (.head _)) rfl ?_
    refine hu.twins.len_of ?_
    (refine lss_of ?_)
    refine condLt_of (fun hc => ?_) (fun hc => ?_)
    · replace E := E.drew
      have hbt := B.cl (t := (k : Int)) (by omega) hc
      iterate 2
        (refine fad_of ?_)
        refine E.ld (.tail _ (.head _)) rfl ?_
        refine tw_ix hu.twins (i := (k : Int)) (by omega) hc (fun b o u1 u2 hcell h1 h2 => ?_)
        (refine fad_of ?_)
        refine ld_of (by first | exact (hcell.ext E.toExt).at 0 rfl | exact (hcell.ext E.toExt).at 1 rfl) ?_
        (refine fad_of ?_)
        refine E.ld (.head _) rfl ?_
        refine tw_ix hv.twins (i := (k : Int)) (by omega) hc (fun b o u1 u2 hcell h1 h2 => ?_)
        (refine fad_of ?_)
        refine ld_of (by first | exact (hcell.ext E.toExt).at 0 rfl | exact (hcell.ext E.toExt).at 1 rfl) ?_
        (refine neq_of ?_)
        refine condP_of (fun hne => absurd rfl hne) (fun _ => ?_)
      (refine fad_of ?_)
      refine E.ld (.tail _ (.head _)) rfl ?_
      refine tw_ix hu.twins (i := (k : Int)) (by omega) hc (fun b o u1 u2 hcell h1 h2 => ?_)
      (refine fad_of ?_)
      refine lds_of ((hcell.ext E.toExt).part 2 6 (sub := cellsC (twAt m k).left u1 u2) rfl) rfl ?_
      (refine fad_of ?_)
      refine E.ld (.head _) rfl ?_
      refine tw_ix hv.twins (i := (k : Int)) (by omega) hc (fun b' o' v1 v2 hcell' h1' h2' => ?_)
      (refine fad_of ?_)
      refine lds_of ((hcell'.ext E.toExt).part 2 6 (sub := cellsC (twAt m k).left v1 v2) rfl) rfl ?_
      refine c_lmCall (c := (twAt m k).left) (h1.ext E.toExt) (h2.ext E.toExt) (h1'.ext E.toExt) (h2'.ext E.toExt) (by omega) (by omega) (fun w5 e5 => ?_)
      replace E := E.ext e5
      (refine not_of ?_)
      refine condN_of (fun h => nomatch h) (fun _ => ?_)
      (refine add_of (by (omega)) (by (omega)) ?_)
      exact hKo (n' - 1) _ _ (by omega) ⟨k + 1, rfl, by omega, E⟩
    · intro _
      exact hR _ E.toExt
end Go.PT
namespace Go.PT
open Go.Proofs
def Fspec_DrawMoveIn (t0 : Value) (w : World) (R : VW) : Prop :=
  allocT 42 #[(.slice none 0 0)] w fun t2 w1 =>
  allocT 57 #[(.slice none 0 0), (.int .i64 0), (.int .i64 0), (.slice none 0 0), (.int .i64 0)] w1 fun t3 w2 =>
  clT PR 103 [t0] w2 fun t12 w3 =>
  clT PR 104 [t12] w3 fun t15 w4 =>
  extT t15 0 fun t16 =>
  extT t15 1 fun t17 =>
  allocT 42 #[(.slice none 0 0)] w4 fun t7 w5 =>
  allocT 57 #[(.slice none 0 0), (.int .i64 0), (.int .i64 0), (.slice none 0 0), (.int .i64 0)] w5 fun t8 w6 =>
  stsT 1 t7 t16 w6 fun w7 =>
  stsT 5 t8 t17 w7 fun w8 =>
  clT PR 105 [t12] w8 fun t20 w9 =>
  extT t20 0 fun t21 =>
  extT t20 1 fun t22 =>
  ldsT 1 t7 (w9.drew) fun t23 =>
  ldsT 5 t8 (w9.drew) fun t24 =>
  stsT 1 t2 t23 (w9.drew) fun w10 =>
  (ldsT 5 t8 w10 fun u => u = t24) ∧
  stsT 5 t3 t24 w10 fun w11 =>
  ldsT 1 t2 w11 fun r12 =>
  ldsT 5 t3 w11 fun r13 =>
  R (.tuple #[r12, r13, t21, t22]) w11
def Fspec_DrawMoveIn.H : Hints := {draw := fun i => match i with | 4 => { T := [0, 0, 0, 0, 1, 19, 55, 127] } | _ => {}}
theorem Fspec_DrawMoveIn.eq (t0 : Value) : trF PR CX Fspec_DrawMoveIn.H Tryz.f35 [t0] = Fspec_DrawMoveIn t0 := by kernel_rfl
theorem Fspec_DrawMoveIn.cl {t0 : Value} {w : World} {R : VW} (h : Fspec_DrawMoveIn t0 w R) : clT PR 35 [t0] w R := cl_of_tr (H := Fspec_DrawMoveIn.H) ctxOk Tryz.func35 rfl (by rw [Fspec_DrawMoveIn.eq]; exact h)
def Fspec_l71Rooms (t0 : Value) (w : World) (R : VW) : Prop :=
  clT PR 139 [t0, (.int .i64 20)] w fun t5 w1 =>
  binT .eql t5 (.int .i64 0) fun t6 =>
  condT t6
  ((clT PR 139 [t0, (.int .i64 7)] (w1.drew) fun t8 w2 =>
  binT .sub t8 (.int .i64 1) fun t9 =>
  (bslT 3 3 1 #[(.int .i64 0)] [(0, 1, (.int .i64 13)), (1, 1, (.int .i64 61)), (2, 1, (.int .i64 20))] w2 fun t10 w3 =>
  clT PR 139 [t0, (.int .i64 3)] w3 fun t12 w4 =>
  ixaT 1 t10 t12 fun t13 =>
  ldT t13 w4 fun t14 =>
  R (.tuple #[t9, t14]) w4) ∧
  (clT PR 139 [t0, (.int .i64 3)] w2 fun t12 w5 =>
  bslT 3 3 1 #[(.int .i64 0)] [(0, 1, (.int .i64 13)), (1, 1, (.int .i64 61)), (2, 1, (.int .i64 20))] w5 fun t10 w6 =>
  ixaT 1 t10 t12 fun t13 =>
  ldT t13 w6 fun t14 =>
  R (.tuple #[t9, t14]) w6)) ∧
  (bslT 3 3 1 #[(.int .i64 0)] [(0, 1, (.int .i64 13)), (1, 1, (.int .i64 61)), (2, 1, (.int .i64 20))] (w1.drew) fun t10 w7 =>
  clT PR 139 [t0, (.int .i64 7)] w7 fun t8 w8 =>
  binT .sub t8 (.int .i64 1) fun t9 =>
  clT PR 139 [t0, (.int .i64 3)] w8 fun t12 w9 =>
  ixaT 1 t10 t12 fun t13 =>
  ldT t13 w9 fun t14 =>
  R (.tuple #[t9, t14]) w9))
  ((clT PR 139 [t0, (.int .i64 4)] (w1.drew) fun t16 w10 =>
  binT .add (.int .i64 1) t16 fun t17 =>
  (bslT 3 6 1 #[(.int .i64 0)] [(0, 1, (.int .i64 14)), (1, 1, (.int .i64 14)), (2, 1, (.int .i64 20)), (3, 1, (.int .i64 28)), (4, 1, (.int .i64 30)), (5, 1, (.int .i64 60))] w10 fun t18 w11 =>
  clT PR 139 [t0, (.int .i64 6)] w11 fun t20 w12 =>
  ixaT 1 t18 t20 fun t21 =>
  ldT t21 w12 fun t22 =>
  R (.tuple #[t17, t22]) w12) ∧
  (clT PR 139 [t0, (.int .i64 6)] w10 fun t20 w13 =>
  bslT 3 6 1 #[(.int .i64 0)] [(0, 1, (.int .i64 14)), (1, 1, (.int .i64 14)), (2, 1, (.int .i64 20)), (3, 1, (.int .i64 28)), (4, 1, (.int .i64 30)), (5, 1, (.int .i64 60))] w13 fun t18 w14 =>
  ixaT 1 t18 t20 fun t21 =>
  ldT t21 w14 fun t22 =>
  R (.tuple #[t17, t22]) w14)) ∧
  (bslT 3 6 1 #[(.int .i64 0)] [(0, 1, (.int .i64 14)), (1, 1, (.int .i64 14)), (2, 1, (.int .i64 20)), (3, 1, (.int .i64 28)), (4, 1, (.int .i64 30)), (5, 1, (.int .i64 60))] (w1.drew) fun t18 w15 =>
  clT PR 139 [t0, (.int .i64 4)] w15 fun t16 w16 =>
  binT .add (.int .i64 1) t16 fun t17 =>
  clT PR 139 [t0, (.int .i64 6)] w16 fun t20 w17 =>
  ixaT 1 t18 t20 fun t21 =>
  ldT t21 w17 fun t22 =>
  R (.tuple #[t17, t22]) w17))
def Fspec_l71Rooms.H : Hints := {draw := fun i => match i with | 2 => { T := [0, 1, 3, 0, 0, 19, 59, 123, 55, 511] } | 3 => { T := [0, 1, 3, 0, 0, 19, 59, 123, 55, 511] } | _ => {}}
theorem Fspec_l71Rooms.eq (t0 : Value) : trF PR CX Fspec_l71Rooms.H Tryz.f105 [t0] = Fspec_l71Rooms t0 := by kernel_rfl
theorem Fspec_l71Rooms.cl {t0 : Value} {w : World} {R : VW} (h : Fspec_l71Rooms t0 w R) : clT PR 105 [t0] w R := cl_of_tr (H := Fspec_l71Rooms.H) ctxOk Tryz.func105 rfl (by rw [Fspec_l71Rooms.eq]; exact h)
end Go.PT
namespace Go.PT
theorem Sl.nrBet {α : Type} {kd : Kd α} {r n : Nat} {w : World} {p q : List Nat} {xs : List α} {v : Value} (h : Sl kd (Nr r n) w p xs v) : Sl kd (Bet 0 n w.heap.size) w q xs v :=
  h.frame (fun s x m hb => ⟨fun o v hc => hc, .inr ⟨hb.2.1, hb.2.2⟩, hb.2.2⟩)
attribute [local irreducible] ldT ldsT stT stsT allocT boxT bldT bslT nilT fadT ixaT fldT extT lenT pickT binT notT cviT opT opU condT clT clvT ivT loopT arT ndT World.cell? World.frozen? World.alloc World.drew World.setCell Blk Cells Sl
theorem c_rooms71 {r : Nat} {code : List Int} {pos : Int} {w : World} {R : VW} (hrd : Rd w r code pos) (hb : Bytes code) (hp : 0 ≤ pos) (hp' : pos ≤ 90000)
    (hR : ∀ a c w' pos', Fr (fun x => x = r) w w' → Rd w' r code pos' → pos ≤ pos' → pos' ≤ pos + 3 → R (.tuple #[.int .i64 a, .int .i64 c]) w') : clT PR 105 [.pointer (some ⟨r, 0, none⟩)] w R := by
  refine Fspec_l71Rooms.cl ?_
  unfold Fspec_l71Rooms
  have E := ER.init hrd
  refine c_pickE E hb (by omega) (by omega) (by omega) (fun x w1 hx0 hx1 E T => ?_)
  (refine eql_of ?_)
  have get3 : ∀ {L : Lab} {wx : World} {l : List (Nat × List Value)} {b : Nat} {q : Int} (a y : Int), ER r code q w L wx ((b, [.int .i64 13, .int .i64 61, .int .i64 20]) :: l) → 0 ≤ y → y < 3 → pos ≤ q → q ≤ pos + 3 → ixaT 1 (.slice (some ⟨b, 0, none⟩) 3 3) (.int .i64 y) fun t13 => ldT t13 wx fun t14 => R (.tuple #[.int .i64 a, t14]) wx := by
    intro L wx l b q a y E h0 h1 q0 q1
    refine ixaS_of h0 h1 ?_
    have : y = 0 ∨ y = 1 ∨ y = 2 := by omega
    rcases this with rfl | rfl | rfl <;> exact E.en.ld (.head _) rfl (hR _ _ _ _ E.fr E.rd q0 q1)
  have get6 : ∀ {L : Lab} {wx : World} {l : List (Nat × List Value)} {b : Nat} {q : Int} (a y : Int), ER r code q w L wx ((b, [.int .i64 14, .int .i64 14, .int .i64 20, .int .i64 28, .int .i64 30, .int .i64 60]) :: l) → 0 ≤ y → y < 6 → pos ≤ q → q ≤ pos + 3 → ixaT 1 (.slice (some ⟨b, 0, none⟩) 6 6) (.int .i64 y) fun t13 => ldT t13 wx fun t14 => R (.tuple #[.int .i64 a, t14]) wx := by
    intro L wx l b q a y E h0 h1 q0 q1
    refine ixaS_of h0 h1 ?_
    have : y = 0 ∨ y = 1 ∨ y = 2 ∨ y = 3 ∨ y = 4 ∨ y = 5 := by omega
    rcases this with rfl | rfl | rfl | rfl | rfl | rfl <;> exact E.en.ld (.head _) rfl (hR _ _ _ _ E.fr E.rd q0 q1)
  refine condP_of (fun _ => ?_) (fun _ => ?_)
  · replace E := E.drew
    refine ⟨?_, ?_⟩
    · refine c_pickE E hb (by omega) (by omega) (by omega) (fun y w2 hy0 hy1 E T => ?_)
      (refine sub_of (by (omega)) (by (omega)) ?_)
      refine ⟨?_, ?_⟩
      · refine E.bsl rfl rfl rfl (fun b3 w3 E e3 => ?_)
        refine c_pickE E hb (by omega) (by omega) (by omega) (fun z w4 hz0 hz1 E T => ?_)
        exact get3 _ z E hz0 hz1 (by omega) (by omega)
      · refine c_pickE E hb (by omega) (by omega) (by omega) (fun z w4 hz0 hz1 E T => ?_)
        refine E.bsl rfl rfl rfl (fun b3 w3 E e3 => ?_)
        exact get3 _ z E hz0 hz1 (by omega) (by omega)
    · refine E.bsl rfl rfl rfl (fun b3 w3 E e3 => ?_)
      refine c_pickE E hb (by omega) (by omega) (by omega) (fun y w2 hy0 hy1 E T => ?_)
      (refine sub_of (by (omega)) (by (omega)) ?_)
      refine c_pickE E hb (by omega) (by omega) (by omega) (fun z w4 hz0 hz1 E T => ?_)
      exact get3 _ z E hz0 hz1 (by omega) (by omega)
  · replace E := E.drew
    refine ⟨?_, ?_⟩
    · refine c_pickE E hb (by omega) (by omega) (by omega) (fun y w2 hy0 hy1 E T => ?_)
      (refine add_of (by (omega)) (by (omega)) ?_)
      refine ⟨?_, ?_⟩
      · refine E.bsl rfl rfl rfl (fun b3 w3 E e3 => ?_)
        refine c_pickE E hb (by omega) (by omega) (by omega) (fun z w4 hz0 hz1 E T => ?_)
        exact get6 _ z E hz0 hz1 (by omega) (by omega)
      · refine c_pickE E hb (by omega) (by omega) (by omega) (fun z w4 hz0 hz1 E T => ?_)
        refine E.bsl rfl rfl rfl (fun b3 w3 E e3 => ?_)
        exact get6 _ z E hz0 hz1 (by omega) (by omega)
    · refine E.bsl rfl rfl rfl (fun b3 w3 E e3 => ?_)
      refine c_pickE E hb (by omega) (by omega) (by omega) (fun y w2 hy0 hy1 E T => ?_)
      (refine add_of (by (omega)) (by (omega)) ?_)
      refine c_pickE E hb (by omega) (by omega) (by omega) (fun z w4 hz0 hz1 E T => ?_)
      exact get6 _ z E hz0 hz1 (by omega) (by omega)
theorem c_drawMoveIn {w : World} {code : List Int} {v : Value} {R : VW} (h : Bt w code v) (hb : ∀ x ∈ code, 0 ≤ x ∧ x ≤ 255)
    (hR : ∀ u uc us w' p h a c, DW w w' p h u uc us → R (.tuple #[.agg #[u], .agg (heapCells h uc us).toArray, .int .i64 a, .int .i64 c]) w') : clT PR 35 [v] w R := by
  refine Fspec_DrawMoveIn.cl ?_
  unfold Fspec_DrawMoveIn
  have E := En.start w
  refine E.al (fun b2 w1 E _ => ?_)
  refine E.al (fun b3 w2 E _ => ?_)
  refine c_l6Open (h.ext E.toExt) hb (fun r w3 code' e3 hr3 hrd hb' => ?_)
  have l2 := ((E.ext e3).loc _ (.tail _ (.head _))).1.1.lt
  have l3 := ((E.ext e3).loc _ (.head _)).1.1.lt
  have lr := hrd.lt
  replace E := E.join [] e3 (lab1_born (p := [9]) hr3) (lab1_lim (p := [9]) lr)
  have hlab : joinL noL [] (lab1 r [9]) r = some [9] := joinL_right (by simp [lab1]) rfl
  generalize joinL noL [] (lab1 r [9]) = L at E hlab
  refine c_heap71 hrd hb' (by omega) (by omega) (fun u uc us w4 pos' p g D => ?_)
  replace E := E.call (Mut.at D.fr hlab E.mu.lim)
  have z := D.fr.size
  have hm := D.meth.nrBet (q := [])
  have hc := D.calls.nrBet (q := [])
  have hs := D.said.nrBet (q := [])
  refine ext_of rfl ?_
  refine ext_of rfl ?_
  refine al_of' (fun b5 w5 e5 hb5 k5 => ?_)
  replace E := E.add e5 hb5 k5
  refine al_of' (fun b6 w6 e6 hb6 k6 => ?_)
  replace E := E.add e6 hb6 k6
  have z5 := e5.size
  replace hm := (hm.betExt e5).betExt e6
  replace hc := (hc.betExt e5).betExt e6
  replace hs := (hs.betExt e5).betExt e6
  refine En.sts' (vs := [u]) [_] rfl E rfl rfl (by intro x hx; simp at hx; subst hx; exact hm.one) (fun w7 E e7 => ?_)
  replace hm := hm.betSet e7.fr (.inr hb5) (Nat.zero_le _) z
  replace hc := hc.betSet e7.fr (.inr hb5) (Nat.zero_le _) z
  replace hs := hs.betSet e7.fr (.inr hb5) (Nat.zero_le _) z
  have h6 : w4.heap.size ≤ b6 := Nat.le_trans z5 hb6
  refine En.sts' (vs := heapCells g uc us) [] rfl E rfl rfl (by intro x hx; simp only [heapCells, List.mem_cons, List.not_mem_nil, or_false] at hx; rcases hx with h | h | h | h | h <;> rw [h] <;> first | rfl | exact hc.one | exact hs.one) (fun w8 E e8 => ?_)
  replace hm := hm.betSet e8.fr (.inr h6) (Nat.zero_le _) z
  replace hc := hc.betSet e8.fr (.inr h6) (Nat.zero_le _) z
  replace hs := hs.betSet e8.fr (.inr h6) (Nat.zero_le _) z
  have hrd8 : Rd w8 r code' pos' := ((D.rd.fr (e5.trans e6)).keep e7.fr (fun x hx => by omega)).keep e8.fr (fun x hx => by omega)
  have d1 := D.lo
  have d2 := D.hi
  refine c_rooms71 hrd8 hb' (by omega) (by omega) (fun a c w9 q9 e9 hrd9 _ _ => ?_)
  replace E := E.call (Mut.at e9 hlab E.mu.lim)
  replace hm := hm.betSet e9 (.inl ⟨Nat.zero_le _, lr⟩) (Nat.zero_le _) z
  replace hc := hc.betSet e9 (.inl ⟨Nat.zero_le _, lr⟩) (Nat.zero_le _) z
  replace hs := hs.betSet e9 (.inl ⟨Nat.zero_le _, lr⟩) (Nat.zero_le _) z
  refine ext_of rfl ?_
  refine ext_of rfl ?_
  replace E := E.drew
  replace hm := hm.betExt (Fr.refl _ _).drew
  replace hc := hc.betExt (Fr.refl _ _).drew
  replace hs := hs.betExt (Fr.refl _ _).drew
  refine E.lds (.tail _ (.head _)) rfl ?_
  refine E.lds (.head _) rfl ?_
  refine En.sts' (vs := [u]) [_, _, _] rfl E rfl rfl (by intro x hx; simp at hx; subst hx; exact hm.one) (fun w10 E e10 => ?_)
  replace hm := hm.betSet e10.fr (.inl ⟨Nat.zero_le _, l2⟩) (Nat.zero_le _) z
  replace hc := hc.betSet e10.fr (.inl ⟨Nat.zero_le _, l2⟩) (Nat.zero_le _) z
  replace hs := hs.betSet e10.fr (.inl ⟨Nat.zero_le _, l2⟩) (Nat.zero_le _) z
  refine ⟨E.lds (.head _) rfl rfl, ?_⟩
  refine En.sts' (vs := heapCells g uc us) [_, _] rfl E rfl rfl (by intro x hx; simp only [heapCells, List.mem_cons, List.not_mem_nil, or_false] at hx; rcases hx with h | h | h | h | h <;> rw [h] <;> first | rfl | exact hc.one | exact hs.one) (fun w11 E e11 => ?_)
  replace hm := hm.betSet e11.fr (.inl ⟨Nat.zero_le _, l3⟩) (Nat.zero_le _) z
  replace hc := hc.betSet e11.fr (.inl ⟨Nat.zero_le _, l3⟩) (Nat.zero_le _) z
  replace hs := hs.betSet e11.fr (.inl ⟨Nat.zero_le _, l3⟩) (Nat.zero_le _) z
  refine E.lds (.tail _ (.tail _ (.tail _ (.head _)))) rfl ?_
  refine E.lds (.tail _ (.tail _ (.head _))) rfl ?_
  exact hR _ _ _ _ _ _ a c ⟨E.toExt, D.prog, hm.betAny, D.small.view hc.betAny hs.betAny, D.small⟩
end Go.PT
namespace Go.PT
theorem heapCells_one {h : Hp} {a b : Value} (ha : a.oneCell' = true) (hb : b.oneCell' = true) : ∀ x ∈ heapCells h a b, x.oneCell' = true := by
  intro x hx; simp only [heapCells, List.mem_cons, List.not_mem_nil, or_false] at hx; rcases hx with h | h | h | h | h <;> rw [h] <;> first | rfl | assumption
theorem prog_ops {p : Pg} (hpo : progOk p = true) : ∀ m ∈ p, m.ops.length ≤ 1073741824 := fun m hm => by
  unfold progOk at hpo
  simp only [Bool.and_eq_true, List.all_eq_true] at hpo
  have := (methOk_iff.mp (hpo.2.2 m hm)).ops
  omega
section
variable {p : Pg} {g : Hp} {a c : Int}
theorem movR_ok (h : (movR p g a c).2 = true) : ∃ k : Nat, HOK p g ∧ 1 ≤ k ∧ k ≤ 4 ∧ 14 ≤ c ∧ c ≤ 60 ∧ (movR p g a c).1 = moveInM g k c := by
  unfold movR at h ⊢
  split at h
  · rename_i h1
    rw [if_pos h1]
    rw [Bool.and_eq_true, Bool.and_eq_true, inB_iff, inB_iff] at h1
    exact ⟨a.toNat, hok_iff.mp h1.1, by omega, by omega, h1.2.2.1, h1.2.2.2, rfl⟩
  · cases h
theorem mc0_mb : MB mc0 := ⟨Nat.zero_le _, fun g hg => (nomatch hg), Nat.zero_le _, ⟨Nat.zero_le _, fun g hg => (nomatch hg)⟩, Nat.zero_le _⟩
theorem movR_mb (B : HB g) : MB (movR p g a c).1 := by
  cases h : (movR p g a c).2 with
  | true =>
    obtain ⟨k, H, k1, k2, c1, c2, he⟩ := movR_ok h
    rw [he]
    have S := moveIn_sim H k1 k2 c1 c2
    have := B.ns
    exact (S.mok H).mb (by rw [S.said]; omega)
  | false =>
    have : (movR p g a c).1 = mc0 := by
      unfold movR at h ⊢
      split at h
      · cases h
      · rename_i h1; rw [if_neg h1]
    rw [this]
    exact mc0_mb
end
end Go.PT
namespace Go.PT
open Go.Proofs
def Flaws_FnMoveBack (t0 : Value) (w : World) (R : VW) : Prop :=
  lenT t0 fun t16 =>
  binT .gtr t16 (.int .i64 1048576) fun t17 =>
  condT t17
  (R (.bool true) w)
  (clT PR 35 [t0] w fun t20 w1 =>
  extT t20 0 fun t21 =>
  extT t20 1 fun t22 =>
  extT t20 2 fun t23 =>
  extT t20 3 fun t24 =>
  allocT 42 #[(.slice none 0 0)] w1 fun t3 w2 =>
  allocT 57 #[(.slice none 0 0), (.int .i64 0), (.int .i64 0), (.slice none 0 0), (.int .i64 0)] w2 fun t4 w3 =>
  stsT 1 t3 t21 w3 fun w4 =>
  stsT 5 t4 t22 w4 fun w5 =>
  ldsT 1 t3 w5 fun t26 =>
  ldsT 5 t4 w5 fun t27 =>
  clT PR 30 [t26, t27, t23, t24] w5 fun t30 w6 =>
  extT t30 0 fun t31 =>
  extT t30 1 fun t32 =>
  allocT 37 #[(.int .i64 0), (.slice none 0 0), (.slice none 0 0), (.int .i64 0), (.slice none 0 0), (.int .i64 0), (.slice none 0 0), (.int .i64 0)] w6 fun t7 w7 =>
  stsT 8 t7 t31 w7 fun w8 =>
  ldsT 1 t3 w8 fun t34 =>
  ldsT 5 t4 w8 fun t35 =>
  clT PR 32 [t34, t35, t23, t24] w8 fun t38 w9 =>
  extT t38 0 fun t39 =>
  extT t38 1 fun t40 =>
  allocT 37 #[(.int .i64 0), (.slice none 0 0), (.slice none 0 0), (.int .i64 0), (.slice none 0 0), (.int .i64 0), (.slice none 0 0), (.int .i64 0)] w9 fun t9 w10 =>
  stsT 8 t9 t39 w10 fun w11 =>
  opT PR (do eqGuard .neq 4 (.tmp 41) (.tmp 42) t40 t32; binOp .neq 4 t40 t32) w11 fun t43 w12 =>
  condT t43
  (opT PR (do eqGuard .eql 4 (.tmp 54) (.tmp 55) t40 t32; binOp .eql 4 t40 t32) w12 fun t56 w13 =>
  condT t56
  (ldsT 8 t9 w13 fun t58 =>
  ldsT 8 t7 w13 fun t59 =>
  clT PR 36 [t58, t59] w13 fun t60 w14 =>
  R t60 w14)
  (R (.bool false) w13))
  (ldsT 8 t9 w12 fun t45 =>
  ldsT 8 t7 w12 fun t46 =>
  clT PR 36 [t45, t46] w12 fun t47 w15 =>
  notT t47 fun t48 =>
  condT t48
  (opT PR (do eqGuard .eql 4 (.tmp 54) (.tmp 55) t40 t32; binOp .eql 4 t40 t32) w15 fun t56 w16 =>
  condT t56
  (ldsT 8 t9 w16 fun t58 =>
  ldsT 8 t7 w16 fun t59 =>
  clT PR 36 [t58, t59] w16 fun t60 w17 =>
  R t60 w17)
  (R (.bool false) w16))
  (notT t40 fun t52 =>
  condT t52
  (opT PR (do eqGuard .eql 4 (.tmp 54) (.tmp 55) t40 t32; binOp .eql 4 t40 t32) w15 fun t56 w18 =>
  condT t56
  (ldsT 8 t9 w18 fun t58 =>
  ldsT 8 t7 w18 fun t59 =>
  clT PR 36 [t58, t59] w18 fun t60 w19 =>
  R t60 w19)
  (R (.bool false) w18))
  (ldsT 1 t3 w15 fun t63 =>
  ldsT 8 t9 w15 fun t64 =>
  clT PR 42 [t63, t64] w15 fun t65 w20 =>
  extT t65 0 fun t66 =>
  extT t65 1 fun t67 =>
  allocT 57 #[(.slice none 0 0), (.int .i64 0), (.int .i64 0), (.slice none 0 0), (.int .i64 0)] w20 fun t11 w21 =>
  stsT 5 t11 t66 w21 fun w22 =>
  ldsT 1 t3 w22 fun t69 =>
  ldsT 5 t4 w22 fun t70 =>
  clT PR 43 [t69, t70] w22 fun t71 w23 =>
  extT t71 0 fun t72 =>
  extT t71 1 fun t73 =>
  allocT 57 #[(.slice none 0 0), (.int .i64 0), (.int .i64 0), (.slice none 0 0), (.int .i64 0)] w23 fun t13 w24 =>
  stsT 5 t13 t72 w24 fun w25 =>
  condT t67
  (condT t73
  (ldsT 5 t11 w25 fun t79 =>
  ldsT 5 t13 w25 fun t80 =>
  clT PR 44 [t79, t80] w25 fun t81 w26 =>
  R t81 w26)
  (R (.bool false) w25))
  (R (.bool false) w25)))))
def Flaws_FnMoveBack.H : Hints := {}
theorem Flaws_FnMoveBack.eq (t0 : Value) : trF PR CX Flaws_FnMoveBack.H Tryz.f6 [t0] = Flaws_FnMoveBack t0 := by kernel_rfl
theorem Flaws_FnMoveBack.cl {t0 : Value} {w : World} {R : VW} (h : Flaws_FnMoveBack t0 w R) : clT PR 6 [t0] w R := cl_of_tr (H := Flaws_FnMoveBack.H) ctxOk Tryz.func6 rfl (by rw [Flaws_FnMoveBack.eq]; exact h)
end Go.PT
namespace Go.PT
attribute [local irreducible] ldT ldsT stT stsT allocT boxT bldT bslT nilT fadT ixaT fldT extT lenT pickT binT notT cviT opT opU condT clT clvT ivT loopT arT ndT World.cell? World.frozen? World.alloc World.drew World.setCell Blk Cells Sl
theorem c_fnMoveBack {w : World} {code : List Int} {v : Value} {R : VW} (h : Bt w code v) (hb : ∀ x ∈ code, 0 ≤ x ∧ x ≤ 255) (hR : ∀ w', Ext w w' → R (.bool true) w') : clT PR 6 [v] w R := by
  refine Flaws_FnMoveBack.cl ?_
  unfold Flaws_FnMoveBack
  refine h.len_of ?_
  (refine gtr_of ?_)
  refine condGt_of (fun _ => hR _ (Fr.refl _ _)) (fun hbig => ?_)
  refine c_drawMoveIn h hb (fun up uc us w1 p g a c D => ?_)
  have hm0 := D.meth.anyOld (q := [])
  have hc0 := D.view.calls.anyOld (q := [])
  have hs0 := D.view.said.anyOld (q := [])
  have hBn := D.small.ns
  have hpl := prog_len D.prog
  have hml := prog_ops D.prog
  have hB := movR_mb (p := p) (a := a) (c := c) D.small
  replace hR : ∀ w', Ext w1 w' → R (.bool true) w' := fun w' e => hR w' (D.ext.trans e)
  refine ext_of rfl ?_
  refine ext_of rfl ?_
  refine ext_of rfl ?_
  refine ext_of rfl ?_
  have E := En.start w1
  refine E.al (fun b5 w2 E _ => ?_)
  refine E.al (fun b6 w3 E _ => ?_)
  refine En.sts' (vs := [up]) [_] rfl E rfl rfl (by intro x hx; simp at hx; subst hx; exact hm0.one) (fun w4 E e4 => ?_)
  refine En.sts' (vs := heapCells g uc us) [] rfl E rfl rfl (heapCells_one hc0.one hs0.one) (fun w5 E e5 => ?_)
  refine E.lds (.tail _ (.head _)) rfl ?_
  refine E.lds (.head _) rfl ?_
  refine c_specMoveIn (r := a) (c := c) (hm0.oldExt E.toExt).oldAny (by omega) hml (D.small.view (hc0.oldExt E.toExt).oldAny (hs0.oldExt E.toExt).oldAny) (fun w6 M1 p1 o1 t1 s1 e6 hb1 hl1 hO1 => ?_)
  replace E := E.ext e6
  refine ext_of rfl ?_
  refine ext_of rfl ?_
  have V1 := hO1.view
  refine E.als (vs := machCells (movR p g a c).1 p1 o1 t1 s1) rfl rfl rfl hO1.one (fun b7 w7 E e7 => ?_)
  replace V1 := V1.ext e7
  refine E.lds (.tail _ (.tail _ (.head _))) rfl ?_
  refine E.lds (.tail _ (.head _)) rfl ?_
  refine c_moveIn (r := a) (c := c) (hm0.oldExt E.toExt).oldAny (by omega) hml (D.small.view (hc0.oldExt E.toExt).oldAny (hs0.oldExt E.toExt).oldAny) (fun w8 M2 p2 o2 t2 s2 e8 hb2 hl2 hO2 => ?_)
  replace E := E.ext e8
  replace V1 := V1.ext e8
  refine ext_of rfl ?_
  refine ext_of rfl ?_
  have V2 := hO2.view
  refine E.als (vs := machCells (movR p g a c).1 p2 o2 t2 s2) rfl rfl rfl hO2.one (fun b9 w9 E e9 => ?_)
  replace V1 := V1.ext e9
  replace V2 := V2.ext e9
  clear hO1 hO2 hb1 hb2 hl1 hl2
  refine neqB_of (by kernel_rfl) ?_
  rw [bne_self_eq_false]
  refine condT_false ?_
  refine E.lds (.head _) rfl ?_
  refine E.lds (.tail _ (.head _)) rfl ?_
  refine c_lmMach V2 V1 hB (fun w10 e10 => ?_)
  replace E := E.ext e10
  replace V1 := V1.ext e10
  replace V2 := V2.ext e10
  (refine not_of ?_)
  refine condN_of (fun hf => absurd hf (by decide)) (fun _ => ?_)
  (refine not_of ?_)
  refine condN_of (fun hf => ?_) (fun ht => ?_)
  · refine eqlB_of (by kernel_rfl) ?_
    rw [beq_self_eq_true]
    refine condT_true ?_
    refine E.lds (.head _) rfl ?_
    refine E.lds (.tail _ (.head _)) rfl ?_
    exact c_lmMach V2 V1 hB (fun w11 e11 => hR _ (E.toExt.trans e11))
  obtain ⟨k, H, k1, k2, c1, c2, he⟩ := movR_ok ht
  rw [he] at V2 E hB
  clear V1 he
  have S := moveIn_sim H k1 k2 c1 c2
  have M := S.mok H
  refine E.lds (.tail _ (.tail _ (.tail _ (.head _)))) rfl ?_
  refine E.lds (.head _) rfl ?_
  refine c_moveOut (hm0.oldExt E.toExt).oldAny (by omega) hml V2 hB (fun w11 ok u11 s11 e11 hok V11 => ?_)
  have hok := hok.mpr M
  subst hok
  have V11 : HeapV w11 (outM (moveInM g k c)) u11 s11 := V11
  rw [S.outM H] at V11
  replace E := E.ext e11
  refine ext_of rfl ?_
  refine ext_of rfl ?_
  have h1 := V11.calls.one
  have h2 := V11.said.one
  have hcells : heapCells (outR p (moveInM g k c) true).1 u11 s11 = heapCells (trimH g) u11 s11 := by
    show heapCells (outM (moveInM g k c)) u11 s11 = _
    rw [S.outM H]
  rw [hcells]
  refine E.als (vs := heapCells (trimH g) u11 s11) rfl rfl rfl (heapCells_one h1 h2) (fun b12 w12 E e12 => ?_)
  replace V11 := V11.ext e12
  refine E.lds (.tail _ (.tail _ (.tail _ (.tail _ (.head _))))) rfl ?_
  refine E.lds (.tail _ (.tail _ (.tail _ (.head _)))) rfl ?_
  refine c_implTrim H (hm0.oldExt E.toExt).oldAny (D.small.view (hc0.oldExt E.toExt).oldAny (hs0.oldExt E.toExt).oldAny) (fun w13 ct st e13 VT => ?_)
  replace E := E.ext e13
  replace V11 := V11.ext e13
  refine ext_of rfl ?_
  refine ext_of rfl ?_
  have h3 := VT.calls.one
  have h4 := VT.said.one
  refine E.als (vs := heapCells (trimH g) ct st) rfl rfl rfl (heapCells_one h3 h4) (fun b14 w14 E e14 => ?_)
  replace V11 := V11.ext e14
  replace VT := VT.ext e14
  refine condT_true ?_
  refine condT_true ?_
  refine E.lds (.tail _ (.head _)) rfl ?_
  refine E.lds (.head _) rfl ?_
  exact c_lmHeap V11 VT (fun w15 e15 => hR _ (E.toExt.trans e15))
end Go.PT
