/- The reflected texts of functions of the program, and that a call keeps what its text says. -/
import Derived.Test.YtegddhbcglghdaaGreatCtx
set_option linter.unusedVariables false
set_option maxRecDepth 100000
namespace Go.PT
open Go.Proofs
/-! function 23: laws_FnHeapZero -/
def Flaws_FnHeapZero.j1 (x12 x13 x14 : Value) (w : World) (R : VW) : Prop := ∀ _ : Env,
  condT x13
  (ldsT 5 x12 w fun t77 =>
  ldsT 5 x14 w fun t78 =>
  clT PR 67 [t77, t78] w fun t79 w59 =>
  R t79 w59)
  (R (.bool false) w)
def Flaws_FnHeapZero (t0 t1 : Value) (w : World) (R : VW) : Prop :=
  lenT t0 fun t16 =>
  binT .gtr t16 (.int .i64 1048576) fun t17 =>
  condT t17
  (R (.bool true) w)
  (lenT t1 fun t20 =>
  binT .gtr t20 (.int .i64 1048576) fun t21 =>
  condT t21
  (R (.bool true) w)
  (clT PR 62 [t0] w fun t25 w1 =>
  extT t25 0 fun t26 =>
  extT t25 1 fun t27 =>
  allocT 42 #[(.slice none 0 0)] w1 fun t5 w2 =>
  allocT 57 #[(.slice none 0 0), (.int .i64 0), (.int .i64 0), (.slice none 0 0), (.int .i64 0)] w2 fun t6 w3 =>
  stsT 1 t5 t26 w3 fun w4 =>
  stsT 5 t6 t27 w4 fun w5 =>
  bldT #[(.int .i64 0), (.int .i64 0)] [] fun t28 =>
  clT PR 64 [(.int .i64 0)] w5 fun t29 w6 =>
  clT PR 64 [(.int .i64 5)] w6 fun t30 w7 =>
  clT PR 69 [(.int .i64 0)] w7 fun t31 w8 =>
  bslT 78 4 2 #[(.int .i64 0), (.int .i64 0)] [(0, 2, t28), (2, 2, t29), (4, 2, t30), (6, 2, t31)] w8 fun t32 w9 =>
  lenT t1 fun t34 =>
  binT .rem t34 (.int .i64 4) fun t35 =>
  ldsT 1 t5 (w9.drew) fun t37 =>
  ldsT 5 t6 (w9.drew) fun t38 =>
  bldT #[(.int .i64 0), (.int .i64 0)] [(0, 1, (.int .i64 8)), (1, 1, (.int .i64 0))] fun t39 =>
  ixaT 2 t32 t35 fun t43 =>
  ldsT 2 t43 (w9.drew) fun t44 =>
  arT [(42, #[(.slice none 0 0)]), (57, #[(.slice none 0 0), (.int .i64 0), (.int .i64 0), (.slice none 0 0), (.int .i64 0)])] (w9.drew) [none, none] fun w10 s11 =>
  clT PR 64 [(.int .i64 7)] w10 fun t40 w12 =>
  (ldsT 2 t43 w12 fun u => u = t44) ∧
  (ldsT 5 t6 w12 fun u => u = t38) ∧
  (ldsT 1 t5 w12 fun u => u = t37) ∧
  arT [(42, #[(.slice none 0 0)]), (57, #[(.slice none 0 0), (.int .i64 0), (.int .i64 0), (.slice none 0 0), (.int .i64 0)])] w12 s11 fun w13 s14 =>
  bslT 78 2 2 #[(.int .i64 0), (.int .i64 0)] [(0, 2, t40), (2, 2, t44)] w13 fun t45 w15 =>
  (ldsT 5 t6 w15 fun u => u = t38) ∧
  (ldsT 1 t5 w15 fun u => u = t37) ∧
  arT [(42, #[(.slice none 0 0)]), (57, #[(.slice none 0 0), (.int .i64 0), (.int .i64 0), (.slice none 0 0), (.int .i64 0)])] w15 s14 fun w16 s17 =>
  clT PR 63 [t37, t38, t39, t45] w16 fun t46 w18 =>
  extT t46 0 fun t47 =>
  extT t46 1 fun t48 =>
  extT t46 2 fun t49 =>
  arT [(42, #[(.slice none 0 0)]), (57, #[(.slice none 0 0), (.int .i64 0), (.int .i64 0), (.slice none 0 0), (.int .i64 0)])] w18 s17 fun w19 s20 =>
  ndT s20 0 fun b21 =>
  ndT s20 1 fun b22 =>
  stsT 1 (.pointer (some ⟨b21, 0, none⟩)) t47 w19 fun w23 =>
  arT [(42, #[(.slice none 0 0)]), (57, #[(.slice none 0 0), (.int .i64 0), (.int .i64 0), (.slice none 0 0), (.int .i64 0)])] w23 s20 fun w24 s25 =>
  ndT s25 0 fun b26 =>
  ndT s25 1 fun b27 =>
  stsT 5 (.pointer (some ⟨b27, 0, none⟩)) t48 w24 fun w28 =>
  arT [(42, #[(.slice none 0 0)]), (57, #[(.slice none 0 0), (.int .i64 0), (.int .i64 0), (.slice none 0 0), (.int .i64 0)])] w28 s25 fun w29 s30 =>
  ndT s30 0 fun b31 =>
  ndT s30 1 fun b32 =>
  arT [(42, #[(.slice none 0 0)]), (57, #[(.slice none 0 0), (.int .i64 0), (.int .i64 0), (.slice none 0 0), (.int .i64 0)])] w29 s30 fun w33 s34 =>
  ndT s34 0 fun b35 =>
  ndT s34 1 fun b36 =>
  ldsT 1 (.pointer (some ⟨b35, 0, none⟩)) w33 fun t51 =>
  ldsT 5 (.pointer (some ⟨b36, 0, none⟩)) w33 fun t52 =>
  clT PR 65 [t51, t52] w33 fun t53 w37 =>
  extT t53 0 fun t54 =>
  extT t53 1 fun t55 =>
  allocT 57 #[(.slice none 0 0), (.int .i64 0), (.int .i64 0), (.slice none 0 0), (.int .i64 0)] w37 fun t12 w38 =>
  stsT 5 t12 t54 w38 fun w39 =>
  notT t49 fun t57 =>
  condT t57
  (ldsT 1 (.pointer (some ⟨b35, 0, none⟩)) w39 fun t59 =>
  ldsT 5 (.pointer (some ⟨b36, 0, none⟩)) w39 fun t60 =>
  clT PR 66 [t59, t60] w39 fun t61 w40 =>
  opT PR (do eqGuard .eql 4 (.tmp 58) (.tmp 61) t55 t61; binOp .eql 4 t55 t61) w40 fun t62 w41 =>
  R t62 w41)
  (ldsT 5 (.pointer (some ⟨b36, 0, none⟩)) (w39.drew) fun t63 =>
  arT [(57, #[(.slice none 0 0), (.int .i64 0), (.int .i64 0), (.slice none 0 0), (.int .i64 0)])] (w39.drew) [none] fun w42 s43 =>
  clT PR 64 [(.int .i64 7)] w42 fun t64 w44 =>
  (ldsT 5 (.pointer (some ⟨b36, 0, none⟩)) w44 fun u => u = t63) ∧
  arT [(57, #[(.slice none 0 0), (.int .i64 0), (.int .i64 0), (.slice none 0 0), (.int .i64 0)])] w44 s43 fun w45 s46 =>
  bslT 78 1 2 #[(.int .i64 0), (.int .i64 0)] [(0, 2, t64)] w45 fun t65 w47 =>
  (ldsT 5 (.pointer (some ⟨b36, 0, none⟩)) w47 fun u => u = t63) ∧
  arT [(57, #[(.slice none 0 0), (.int .i64 0), (.int .i64 0), (.slice none 0 0), (.int .i64 0)])] w47 s46 fun w48 s49 =>
  clT PR 68 [t63, t65] w48 fun t66 w50 =>
  arT [(57, #[(.slice none 0 0), (.int .i64 0), (.int .i64 0), (.slice none 0 0), (.int .i64 0)])] w50 s49 fun w51 s52 =>
  ndT s52 0 fun b53 =>
  stsT 5 (.pointer (some ⟨b53, 0, none⟩)) t66 w51 fun w54 =>
  arT [(57, #[(.slice none 0 0), (.int .i64 0), (.int .i64 0), (.slice none 0 0), (.int .i64 0)])] w54 s52 fun w55 s56 =>
  ndT s56 0 fun b57 =>
  binT .lss t35 (.int .i64 2) fun t68 =>
  condT t68
  (fadT 0 (.pointer (some ⟨b57, 0, none⟩)) fun t69 =>
  ldT t69 w55 fun t70 =>
  fadT 1 (.pointer (some ⟨b57, 0, none⟩)) fun t71 =>
  ldT t71 w55 fun t72 =>
  ixaT 6 t70 t72 fun t73 =>
  fadT 1 t73 fun t74 =>
  stT t74 (.int .i64 0) w55 fun w58 =>
  Flaws_FnHeapZero.j1 t12 t55 (.pointer (some ⟨b57, 0, none⟩)) w58 R)
  (Flaws_FnHeapZero.j1 t12 t55 (.pointer (some ⟨b57, 0, none⟩)) w55 R))))
def Flaws_FnHeapZero.H : Hints := {draw := fun i => match i with | 6 => { T := [0, 0, 0, 0, 0, 0, 48, 112, 248, 511, 1023, 2047, 2047, 2047, 0, 0, 53247, 122879, 262143], F := [14, 15] } | 10 => { T := [0, 0, 2, 7, 0, 31], F := [4] } | _ => {}, join := fun i => match i with | 68 => some [12, 13, 14] | _ => none}
theorem Flaws_FnHeapZero.eq (t0 t1 : Value) : trF PR CX Flaws_FnHeapZero.H Tryz.f23 [t0, t1] = Flaws_FnHeapZero t0 t1 := by kernel_rfl
theorem Flaws_FnHeapZero.cl {t0 t1 : Value} {w : World} {R : VW} (h : Flaws_FnHeapZero t0 t1 w R) : clT PR 23 [t0, t1] w R := cl_of_tr (H := Flaws_FnHeapZero.H) ctxOk Tryz.func23 rfl (by rw [Flaws_FnHeapZero.eq]; exact h)
end Go.PT
