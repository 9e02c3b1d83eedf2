/- The reflected texts of functions of the program, and that a call keeps what its text says. -/
import Derived.Test.YtegddhbcglghdaaGreatCtx
set_option linter.unusedVariables false
set_option maxRecDepth 100000
namespace Go.PT
open Go.Proofs
/-! function 26: laws_FnHeapTrimRun -/
def Flaws_FnHeapTrimRun (t0 : Value) (w : World) (R : VW) : Prop :=
  lenT t0 fun t15 =>
  binT .gtr t15 (.int .i64 1048576) fun t16 =>
  condT t16
  (R (.bool true) w)
  (clT PR 77 [t0] w fun t19 w1 =>
  extT t19 0 fun t20 =>
  extT t19 1 fun t21 =>
  extT t19 2 fun t22 =>
  allocT 42 #[(.slice none 0 0)] w1 fun t3 w2 =>
  allocT 57 #[(.slice none 0 0), (.int .i64 0), (.int .i64 0), (.slice none 0 0), (.int .i64 0)] w2 fun t4 w3 =>
  stsT 1 t3 t20 w3 fun w4 =>
  stsT 5 t4 t21 w4 fun w5 =>
  ldsT 1 t3 w5 fun t24 =>
  ldsT 5 t4 w5 fun t25 =>
  clT PR 78 [t24, t25, t22] w5 fun t27 w6 =>
  extT t27 0 fun t28 =>
  extT t27 1 fun t29 =>
  allocT 57 #[(.slice none 0 0), (.int .i64 0), (.int .i64 0), (.slice none 0 0), (.int .i64 0)] w6 fun t6 w7 =>
  stsT 5 t6 t28 w7 fun w8 =>
  ldsT 1 t3 w8 fun t31 =>
  ldsT 5 t4 w8 fun t32 =>
  clT PR 79 [t31, t32, t22] w8 fun t34 w9 =>
  extT t34 0 fun t35 =>
  extT t34 1 fun t36 =>
  allocT 57 #[(.slice none 0 0), (.int .i64 0), (.int .i64 0), (.slice none 0 0), (.int .i64 0)] w9 fun t8 w10 =>
  stsT 5 t8 t35 w10 fun w11 =>
  opT PR (do eqGuard .neq 4 (.tmp 37) (.tmp 38) t36 t29; binOp .neq 4 t36 t29) w11 fun t39 w12 =>
  condT t39
  (opT PR (do eqGuard .eql 4 (.tmp 50) (.tmp 51) t36 t29; binOp .eql 4 t36 t29) w12 fun t52 w13 =>
  condT t52
  (ldsT 5 t8 w13 fun t54 =>
  ldsT 5 t6 w13 fun t55 =>
  clT PR 67 [t54, t55] w13 fun t56 w14 =>
  R t56 w14)
  (R (.bool false) w13))
  (ldsT 5 t8 w12 fun t41 =>
  ldsT 5 t6 w12 fun t42 =>
  clT PR 67 [t41, t42] w12 fun t43 w15 =>
  notT t43 fun t44 =>
  condT t44
  (opT PR (do eqGuard .eql 4 (.tmp 50) (.tmp 51) t36 t29; binOp .eql 4 t36 t29) w15 fun t52 w16 =>
  condT t52
  (ldsT 5 t8 w16 fun t54 =>
  ldsT 5 t6 w16 fun t55 =>
  clT PR 67 [t54, t55] w16 fun t56 w17 =>
  R t56 w17)
  (R (.bool false) w16))
  (notT t36 fun t48 =>
  condT t48
  (opT PR (do eqGuard .eql 4 (.tmp 50) (.tmp 51) t36 t29; binOp .eql 4 t36 t29) w15 fun t52 w18 =>
  condT t52
  (ldsT 5 t8 w18 fun t54 =>
  ldsT 5 t6 w18 fun t55 =>
  clT PR 67 [t54, t55] w18 fun t56 w19 =>
  R t56 w19)
  (R (.bool false) w18))
  (ldsT 1 t3 w15 fun t59 =>
  ldsT 5 t4 w15 fun t60 =>
  clT PR 71 [t59, t60] w15 fun t61 w20 =>
  extT t61 0 fun t62 =>
  extT t61 1 fun t63 =>
  allocT 57 #[(.slice none 0 0), (.int .i64 0), (.int .i64 0), (.slice none 0 0), (.int .i64 0)] w20 fun t10 w21 =>
  stsT 5 t10 t62 w21 fun w22 =>
  ldsT 1 t3 w22 fun t65 =>
  ldsT 5 t10 w22 fun t66 =>
  clT PR 79 [t65, t66, t22] w22 fun t68 w23 =>
  extT t68 0 fun t69 =>
  extT t68 1 fun t70 =>
  allocT 57 #[(.slice none 0 0), (.int .i64 0), (.int .i64 0), (.slice none 0 0), (.int .i64 0)] w23 fun t12 w24 =>
  stsT 5 t12 t69 w24 fun w25 =>
  condT t70
  (ldsT 5 t12 (w25.drew) fun t73 =>
  ldsT 5 t8 (w25.drew) fun t75 =>
  clT PR 60 [t73] (w25.drew) fun t74 w26 =>
  (ldsT 5 t8 w26 fun u => u = t75) ∧
  clT PR 60 [t75] w26 fun t76 w27 =>
  clT PR 58 [t74, t76] w27 fun t77 w28 =>
  condT t77
  (fadT 3 t12 fun t80 =>
  ldT t80 w28 fun t81 =>
  fadT 3 t8 fun t82 =>
  ldT t82 w28 fun t83 =>
  clT PR 80 [t81, t83] w28 fun t84 w29 =>
  condT t84
  (fadT 4 t12 fun t87 =>
  ldT t87 w29 fun t88 =>
  fadT 4 t8 fun t89 =>
  ldT t89 w29 fun t90 =>
  binT .eql t88 t90 fun t91 =>
  condT t91
  (fadT 2 t12 fun t94 =>
  ldT t94 w29 fun t95 =>
  fadT 2 t8 fun t96 =>
  ldT t96 w29 fun t97 =>
  binT .eql t95 t97 fun t98 =>
  R t98 w29)
  (R (.bool false) w29))
  (R (.bool false) w29))
  (R (.bool false) w28))
  (R (.bool false) (w25.drew))))))
def Flaws_FnHeapTrimRun.H : Hints := {draw := fun i => match i with | 10 => { T := [0, 1, 3, 7, 3, 31, 63, 127, 255, 511, 1023, 511, 2559, 8191, 16383, 32767, 65535, 131071, 65535, 327679, 1048575, 2097151, 4194303, 8388607, 16777215, 8388607, 41943039, 134217727, 268435455, 536870911] } | _ => {}}
theorem Flaws_FnHeapTrimRun.eq (t0 : Value) : trF PR CX Flaws_FnHeapTrimRun.H Tryz.f26 [t0] = Flaws_FnHeapTrimRun t0 := by kernel_rfl
theorem Flaws_FnHeapTrimRun.cl {t0 : Value} {w : World} {R : VW} (h : Flaws_FnHeapTrimRun t0 w R) : clT PR 26 [t0] w R := cl_of_tr (H := Flaws_FnHeapTrimRun.H) ctxOk Tryz.func26 rfl (by rw [Flaws_FnHeapTrimRun.eq]; exact h)
end Go.PT
