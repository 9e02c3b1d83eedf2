/- The reflected texts of functions of the program, and that a call keeps what its text says. -/
import Derived.Test.YtegddhbcglghdaaGreatCtx
set_option linter.unusedVariables false
set_option maxRecDepth 100000
namespace Go.PT
open Go.Proofs
/-! function 10: laws_FnHeapNum -/
def Flaws_FnHeapNum (t0 t1 : Value) (w : World) (R : VW) : Prop :=
  lenT t0 fun t14 =>
  binT .gtr t14 (.int .i64 1048576) fun t15 =>
  condT t15
  (R (.bool true) w)
  (lenT t1 fun t18 =>
  binT .gtr t18 (.int .i64 1048576) fun t19 =>
  condT t19
  (R (.bool true) w)
  (clT PR 62 [t0] w fun t23 w1 =>
  extT t23 0 fun t24 =>
  extT t23 1 fun t25 =>
  allocT 42 #[(.slice none 0 0)] w1 fun t5 w2 =>
  allocT 57 #[(.slice none 0 0), (.int .i64 0), (.int .i64 0), (.slice none 0 0), (.int .i64 0)] w2 fun t6 w3 =>
  stsT 1 t5 t24 w3 fun w4 =>
  stsT 5 t6 t25 w4 fun w5 =>
  lenT t1 fun t27 =>
  binT .rem t27 (.int .i64 100) fun t28 =>
  ldsT 1 t5 (w5.drew) fun t30 =>
  ldsT 5 t6 (w5.drew) fun t31 =>
  bldT #[(.int .i64 0), (.int .i64 0)] [(0, 1, (.int .i64 1)), (1, 1, t28)] fun t33 =>
  arT [(42, #[(.slice none 0 0)]), (57, #[(.slice none 0 0), (.int .i64 0), (.int .i64 0), (.slice none 0 0), (.int .i64 0)])] (w5.drew) [none, none] fun w6 s7 =>
  clT PR 64 [(.int .i64 7)] w6 fun t34 w8 =>
  (ldsT 5 t6 w8 fun u => u = t31) ∧
  (ldsT 1 t5 w8 fun u => u = t30) ∧
  arT [(42, #[(.slice none 0 0)]), (57, #[(.slice none 0 0), (.int .i64 0), (.int .i64 0), (.slice none 0 0), (.int .i64 0)])] w8 s7 fun w9 s10 =>
  bslT 78 1 2 #[(.int .i64 0), (.int .i64 0)] [(0, 2, t34)] w9 fun t35 w11 =>
  (ldsT 5 t6 w11 fun u => u = t31) ∧
  (ldsT 1 t5 w11 fun u => u = t30) ∧
  arT [(42, #[(.slice none 0 0)]), (57, #[(.slice none 0 0), (.int .i64 0), (.int .i64 0), (.slice none 0 0), (.int .i64 0)])] w11 s10 fun w12 s13 =>
  clT PR 63 [t30, t31, t33, t35] w12 fun t36 w14 =>
  extT t36 0 fun t37 =>
  extT t36 1 fun t38 =>
  extT t36 2 fun t39 =>
  arT [(42, #[(.slice none 0 0)]), (57, #[(.slice none 0 0), (.int .i64 0), (.int .i64 0), (.slice none 0 0), (.int .i64 0)])] w14 s13 fun w15 s16 =>
  ndT s16 0 fun b17 =>
  ndT s16 1 fun b18 =>
  stsT 1 (.pointer (some ⟨b17, 0, none⟩)) t37 w15 fun w19 =>
  arT [(42, #[(.slice none 0 0)]), (57, #[(.slice none 0 0), (.int .i64 0), (.int .i64 0), (.slice none 0 0), (.int .i64 0)])] w19 s16 fun w20 s21 =>
  ndT s21 0 fun b22 =>
  ndT s21 1 fun b23 =>
  stsT 5 (.pointer (some ⟨b23, 0, none⟩)) t38 w20 fun w24 =>
  arT [(42, #[(.slice none 0 0)]), (57, #[(.slice none 0 0), (.int .i64 0), (.int .i64 0), (.slice none 0 0), (.int .i64 0)])] w24 s21 fun w25 s26 =>
  ndT s26 0 fun b27 =>
  ndT s26 1 fun b28 =>
  arT [(42, #[(.slice none 0 0)]), (57, #[(.slice none 0 0), (.int .i64 0), (.int .i64 0), (.slice none 0 0), (.int .i64 0)])] w25 s26 fun w29 s30 =>
  ndT s30 0 fun b31 =>
  ndT s30 1 fun b32 =>
  ldsT 1 (.pointer (some ⟨b31, 0, none⟩)) w29 fun t41 =>
  ldsT 5 (.pointer (some ⟨b32, 0, none⟩)) w29 fun t42 =>
  clT PR 65 [t41, t42] w29 fun t43 w33 =>
  extT t43 0 fun t44 =>
  extT t43 1 fun t45 =>
  allocT 57 #[(.slice none 0 0), (.int .i64 0), (.int .i64 0), (.slice none 0 0), (.int .i64 0)] w33 fun t11 w34 =>
  stsT 5 t11 t44 w34 fun w35 =>
  notT t39 fun t47 =>
  condT t47
  (ldsT 1 (.pointer (some ⟨b31, 0, none⟩)) w35 fun t49 =>
  ldsT 5 (.pointer (some ⟨b32, 0, none⟩)) w35 fun t50 =>
  clT PR 66 [t49, t50] w35 fun t51 w36 =>
  opT PR (do eqGuard .eql 4 (.tmp 48) (.tmp 51) t45 t51; binOp .eql 4 t45 t51) w36 fun t52 w37 =>
  R t52 w37)
  (condT t45
  (ldsT 5 t11 (w35.drew) fun t55 =>
  ldsT 5 (.pointer (some ⟨b32, 0, none⟩)) (w35.drew) fun t56 =>
  clT PR 64 [(.int .i64 7)] (w35.drew) fun t57 w38 =>
  (ldsT 5 (.pointer (some ⟨b32, 0, none⟩)) w38 fun u => u = t56) ∧
  (ldsT 5 t11 w38 fun u => u = t55) ∧
  clT PR 64 [t28] w38 fun t59 w39 =>
  (ldsT 5 (.pointer (some ⟨b32, 0, none⟩)) w39 fun u => u = t56) ∧
  (ldsT 5 t11 w39 fun u => u = t55) ∧
  bslT 78 2 2 #[(.int .i64 0), (.int .i64 0)] [(0, 2, t57), (2, 2, t59)] w39 fun t60 w40 =>
  (ldsT 5 (.pointer (some ⟨b32, 0, none⟩)) w40 fun u => u = t56) ∧
  (ldsT 5 t11 w40 fun u => u = t55) ∧
  clT PR 68 [t56, t60] w40 fun t61 w41 =>
  (ldsT 5 t11 w41 fun u => u = t55) ∧
  clT PR 67 [t55, t61] w41 fun t62 w42 =>
  R t62 w42)
  (R (.bool false) (w35.drew)))))
def Flaws_FnHeapNum.H : Hints := {draw := fun i => match i with | 5 => { T := [0, 0, 0, 4, 0, 16, 63, 127, 255, 255, 255, 0, 0, 6655, 15359, 32767], F := [11, 12] } | 9 => { T := [0, 1, 3, 3, 3, 3, 51, 115, 251, 511, 1023, 2047] } | _ => {}}
theorem Flaws_FnHeapNum.eq (t0 t1 : Value) : trF PR CX Flaws_FnHeapNum.H Tryz.f10 [t0, t1] = Flaws_FnHeapNum t0 t1 := by kernel_rfl
theorem Flaws_FnHeapNum.cl {t0 t1 : Value} {w : World} {R : VW} (h : Flaws_FnHeapNum t0 t1 w R) : clT PR 10 [t0, t1] w R := cl_of_tr (H := Flaws_FnHeapNum.H) ctxOk Tryz.func10 rfl (by rw [Flaws_FnHeapNum.eq]; exact h)
end Go.PT
