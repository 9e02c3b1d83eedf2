/- The reflected texts of functions of the program, and that a call keeps what its text says. -/
import Derived.Test.YtegddhbcglghdaaGreatCtx
set_option linter.unusedVariables false
set_option maxRecDepth 100000
namespace Go.PT
open Go.Proofs
/-! function 14: laws_FnHeapTemp -/
def Flaws_FnHeapTemp (t0 t1 : Value) (w : World) (R : VW) : Prop :=
  lenT t0 fun t13 =>
  binT .gtr t13 (.int .i64 1048576) fun t14 =>
  condT t14
  (R (.bool true) w)
  (lenT t1 fun t17 =>
  binT .gtr t17 (.int .i64 1048576) fun t18 =>
  condT t18
  (R (.bool true) w)
  (clT PR 62 [t0] w fun t22 w1 =>
  extT t22 0 fun t23 =>
  extT t22 1 fun t24 =>
  allocT 42 #[(.slice none 0 0)] w1 fun t5 w2 =>
  allocT 57 #[(.slice none 0 0), (.int .i64 0), (.int .i64 0), (.slice none 0 0), (.int .i64 0)] w2 fun t6 w3 =>
  stsT 1 t5 t23 w3 fun w4 =>
  stsT 5 t6 t24 w4 fun w5 =>
  ldsT 1 t5 (w5.drew) fun t26 =>
  ldsT 5 t6 (w5.drew) fun t27 =>
  lenT t1 fun t29 =>
  binT .rem t29 (.int .i64 4) fun t30 =>
  bldT #[(.int .i64 0), (.int .i64 0)] [(0, 1, (.int .i64 2)), (1, 1, t30)] fun t31 =>
  arT [(42, #[(.slice none 0 0)]), (57, #[(.slice none 0 0), (.int .i64 0), (.int .i64 0), (.slice none 0 0), (.int .i64 0)])] (w5.drew) [none, none] fun w6 s7 =>
  clT PR 64 [(.int .i64 7)] w6 fun t32 w8 =>
  (ldsT 5 t6 w8 fun u => u = t27) ∧
  (ldsT 1 t5 w8 fun u => u = t26) ∧
  arT [(42, #[(.slice none 0 0)]), (57, #[(.slice none 0 0), (.int .i64 0), (.int .i64 0), (.slice none 0 0), (.int .i64 0)])] w8 s7 fun w9 s10 =>
  bslT 78 1 2 #[(.int .i64 0), (.int .i64 0)] [(0, 2, t32)] w9 fun t33 w11 =>
  (ldsT 5 t6 w11 fun u => u = t27) ∧
  (ldsT 1 t5 w11 fun u => u = t26) ∧
  arT [(42, #[(.slice none 0 0)]), (57, #[(.slice none 0 0), (.int .i64 0), (.int .i64 0), (.slice none 0 0), (.int .i64 0)])] w11 s10 fun w12 s13 =>
  clT PR 63 [t26, t27, t31, t33] w12 fun t34 w14 =>
  extT t34 0 fun t35 =>
  extT t34 1 fun t36 =>
  extT t34 2 fun t37 =>
  arT [(42, #[(.slice none 0 0)]), (57, #[(.slice none 0 0), (.int .i64 0), (.int .i64 0), (.slice none 0 0), (.int .i64 0)])] w14 s13 fun w15 s16 =>
  ndT s16 0 fun b17 =>
  ndT s16 1 fun b18 =>
  stsT 1 (.pointer (some ⟨b17, 0, none⟩)) t35 w15 fun w19 =>
  arT [(42, #[(.slice none 0 0)]), (57, #[(.slice none 0 0), (.int .i64 0), (.int .i64 0), (.slice none 0 0), (.int .i64 0)])] w19 s16 fun w20 s21 =>
  ndT s21 0 fun b22 =>
  ndT s21 1 fun b23 =>
  stsT 5 (.pointer (some ⟨b23, 0, none⟩)) t36 w20 fun w24 =>
  arT [(42, #[(.slice none 0 0)]), (57, #[(.slice none 0 0), (.int .i64 0), (.int .i64 0), (.slice none 0 0), (.int .i64 0)])] w24 s21 fun w25 s26 =>
  ndT s26 0 fun b27 =>
  ndT s26 1 fun b28 =>
  arT [(42, #[(.slice none 0 0)]), (57, #[(.slice none 0 0), (.int .i64 0), (.int .i64 0), (.slice none 0 0), (.int .i64 0)])] w25 s26 fun w29 s30 =>
  ndT s30 0 fun b31 =>
  ndT s30 1 fun b32 =>
  ldsT 1 (.pointer (some ⟨b31, 0, none⟩)) w29 fun t39 =>
  ldsT 5 (.pointer (some ⟨b32, 0, none⟩)) w29 fun t40 =>
  clT PR 65 [t39, t40] w29 fun t41 w33 =>
  extT t41 0 fun t42 =>
  extT t41 1 fun t43 =>
  allocT 57 #[(.slice none 0 0), (.int .i64 0), (.int .i64 0), (.slice none 0 0), (.int .i64 0)] w33 fun t10 w34 =>
  stsT 5 t10 t42 w34 fun w35 =>
  notT t37 fun t45 =>
  condT t45
  (ldsT 1 (.pointer (some ⟨b31, 0, none⟩)) w35 fun t47 =>
  ldsT 5 (.pointer (some ⟨b32, 0, none⟩)) w35 fun t48 =>
  clT PR 66 [t47, t48] w35 fun t49 w36 =>
  opT PR (do eqGuard .eql 4 (.tmp 46) (.tmp 49) t43 t49; binOp .eql 4 t43 t49) w36 fun t50 w37 =>
  R t50 w37)
  (condT t43
  (ldsT 5 t10 (w35.drew) fun t53 =>
  ldsT 5 (.pointer (some ⟨b32, 0, none⟩)) (w35.drew) fun t54 =>
  fadT 0 (.pointer (some ⟨b32, 0, none⟩)) fun t56 =>
  ldT t56 (w35.drew) fun t57 =>
  fadT 1 (.pointer (some ⟨b32, 0, none⟩)) fun t58 =>
  ldT t58 (w35.drew) fun t59 =>
  ixaT 6 t57 t59 fun t60 =>
  fadT 2 t60 fun t61 =>
  ldT t61 (w35.drew) fun t62 =>
  lenT t1 fun t64 =>
  binT .rem t64 (.int .i64 4) fun t65 =>
  ixaT 2 t62 t65 fun t66 =>
  ldsT 2 t66 (w35.drew) fun t67 =>
  clT PR 64 [(.int .i64 7)] (w35.drew) fun t55 w38 =>
  (ldsT 2 t66 w38 fun u => u = t67) ∧
  (ldT t61 w38 fun u => u = t62) ∧
  (ldT t58 w38 fun u => u = t59) ∧
  (ldT t56 w38 fun u => u = t57) ∧
  (ldsT 5 (.pointer (some ⟨b32, 0, none⟩)) w38 fun u => u = t54) ∧
  (ldsT 5 t10 w38 fun u => u = t53) ∧
  bslT 78 2 2 #[(.int .i64 0), (.int .i64 0)] [(0, 2, t55), (2, 2, t67)] w38 fun t68 w39 =>
  (ldsT 5 (.pointer (some ⟨b32, 0, none⟩)) w39 fun u => u = t54) ∧
  (ldsT 5 t10 w39 fun u => u = t53) ∧
  clT PR 68 [t54, t68] w39 fun t69 w40 =>
  (ldsT 5 t10 w40 fun u => u = t53) ∧
  clT PR 67 [t53, t69] w40 fun t70 w41 =>
  R t70 w41)
  (R (.bool false) (w35.drew)))))
def Flaws_FnHeapTemp.H : Hints := {draw := fun i => match i with | 4 => { T := [0, 0, 0, 4, 12, 28, 0, 64, 255, 511, 1023, 1023, 1023, 0, 0, 26623, 61439, 131071], F := [13, 14] } | 8 => { T := [0, 1, 3, 3, 3, 3, 35, 3, 131, 483, 995, 2019, 3, 4099, 12291, 32739, 65507, 131059, 262139, 524287, 1048575, 2097151] } | _ => {}}
theorem Flaws_FnHeapTemp.eq (t0 t1 : Value) : trF PR CX Flaws_FnHeapTemp.H Tryz.f14 [t0, t1] = Flaws_FnHeapTemp t0 t1 := by kernel_rfl
theorem Flaws_FnHeapTemp.cl {t0 t1 : Value} {w : World} {R : VW} (h : Flaws_FnHeapTemp t0 t1 w R) : clT PR 14 [t0, t1] w R := cl_of_tr (H := Flaws_FnHeapTemp.H) ctxOk Tryz.func14 rfl (by rw [Flaws_FnHeapTemp.eq]; exact h)
end Go.PT
