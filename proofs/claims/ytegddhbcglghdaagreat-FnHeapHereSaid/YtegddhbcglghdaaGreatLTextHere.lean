/- The reflected texts of functions of the program, and that a call keeps what its text says. -/
import Derived.Test.YtegddhbcglghdaaGreatCtx
set_option linter.unusedVariables false
set_option maxRecDepth 100000
namespace Go.PT
open Go.Proofs
/-! function 16: laws_FnHeapHere -/
def Flaws_FnHeapHere (t0 : Value) (w : World) (R : VW) : Prop :=
  lenT t0 fun t11 =>
  binT .gtr t11 (.int .i64 1048576) fun t12 =>
  condT t12
  (R (.bool true) w)
  (clT PR 62 [t0] w fun t15 w1 =>
  extT t15 0 fun t16 =>
  extT t15 1 fun t17 =>
  allocT 42 #[(.slice none 0 0)] w1 fun t3 w2 =>
  allocT 57 #[(.slice none 0 0), (.int .i64 0), (.int .i64 0), (.slice none 0 0), (.int .i64 0)] w2 fun t4 w3 =>
  stsT 1 t3 t16 w3 fun w4 =>
  stsT 5 t4 t17 w4 fun w5 =>
  ldsT 1 t3 (w5.drew) fun t19 =>
  ldsT 5 t4 (w5.drew) fun t20 =>
  bldT #[(.int .i64 0), (.int .i64 0)] [(0, 1, (.int .i64 11))] fun t21 =>
  arT [(42, #[(.slice none 0 0)]), (57, #[(.slice none 0 0), (.int .i64 0), (.int .i64 0), (.slice none 0 0), (.int .i64 0)])] (w5.drew) [none, none] fun w6 s7 =>
  clT PR 64 [(.int .i64 7)] w6 fun t22 w8 =>
  (ldsT 5 t4 w8 fun u => u = t20) ∧
  (ldsT 1 t3 w8 fun u => u = t19) ∧
  arT [(42, #[(.slice none 0 0)]), (57, #[(.slice none 0 0), (.int .i64 0), (.int .i64 0), (.slice none 0 0), (.int .i64 0)])] w8 s7 fun w9 s10 =>
  bslT 78 1 2 #[(.int .i64 0), (.int .i64 0)] [(0, 2, t22)] w9 fun t23 w11 =>
  (ldsT 5 t4 w11 fun u => u = t20) ∧
  (ldsT 1 t3 w11 fun u => u = t19) ∧
  arT [(42, #[(.slice none 0 0)]), (57, #[(.slice none 0 0), (.int .i64 0), (.int .i64 0), (.slice none 0 0), (.int .i64 0)])] w11 s10 fun w12 s13 =>
  clT PR 63 [t19, t20, t21, t23] w12 fun t24 w14 =>
  extT t24 0 fun t25 =>
  extT t24 1 fun t26 =>
  extT t24 2 fun t27 =>
  arT [(42, #[(.slice none 0 0)]), (57, #[(.slice none 0 0), (.int .i64 0), (.int .i64 0), (.slice none 0 0), (.int .i64 0)])] w14 s13 fun w15 s16 =>
  ndT s16 0 fun b17 =>
  ndT s16 1 fun b18 =>
  stsT 1 (.pointer (some ⟨b17, 0, none⟩)) t25 w15 fun w19 =>
  arT [(42, #[(.slice none 0 0)]), (57, #[(.slice none 0 0), (.int .i64 0), (.int .i64 0), (.slice none 0 0), (.int .i64 0)])] w19 s16 fun w20 s21 =>
  ndT s21 0 fun b22 =>
  ndT s21 1 fun b23 =>
  stsT 5 (.pointer (some ⟨b23, 0, none⟩)) t26 w20 fun w24 =>
  arT [(42, #[(.slice none 0 0)]), (57, #[(.slice none 0 0), (.int .i64 0), (.int .i64 0), (.slice none 0 0), (.int .i64 0)])] w24 s21 fun w25 s26 =>
  ndT s26 0 fun b27 =>
  ndT s26 1 fun b28 =>
  arT [(42, #[(.slice none 0 0)]), (57, #[(.slice none 0 0), (.int .i64 0), (.int .i64 0), (.slice none 0 0), (.int .i64 0)])] w25 s26 fun w29 s30 =>
  ndT s30 0 fun b31 =>
  ndT s30 1 fun b32 =>
  ldsT 1 (.pointer (some ⟨b31, 0, none⟩)) w29 fun t29 =>
  ldsT 5 (.pointer (some ⟨b32, 0, none⟩)) w29 fun t30 =>
  clT PR 65 [t29, t30] w29 fun t31 w33 =>
  extT t31 0 fun t32 =>
  extT t31 1 fun t33 =>
  allocT 57 #[(.slice none 0 0), (.int .i64 0), (.int .i64 0), (.slice none 0 0), (.int .i64 0)] w33 fun t8 w34 =>
  stsT 5 t8 t32 w34 fun w35 =>
  notT t27 fun t35 =>
  condT t35
  (ldsT 1 (.pointer (some ⟨b31, 0, none⟩)) w35 fun t37 =>
  ldsT 5 (.pointer (some ⟨b32, 0, none⟩)) w35 fun t38 =>
  clT PR 66 [t37, t38] w35 fun t39 w36 =>
  opT PR (do eqGuard .eql 4 (.tmp 36) (.tmp 39) t33 t39; binOp .eql 4 t33 t39) w36 fun t40 w37 =>
  R t40 w37)
  (condT t33
  (ldsT 5 t8 (w35.drew) fun t43 =>
  ldsT 5 (.pointer (some ⟨b32, 0, none⟩)) (w35.drew) fun t44 =>
  fadT 1 (.pointer (some ⟨b32, 0, none⟩)) fun t46 =>
  ldT t46 (w35.drew) fun t47 =>
  clT PR 64 [(.int .i64 7)] (w35.drew) fun t45 w38 =>
  (ldT t46 w38 fun u => u = t47) ∧
  (ldsT 5 (.pointer (some ⟨b32, 0, none⟩)) w38 fun u => u = t44) ∧
  (ldsT 5 t8 w38 fun u => u = t43) ∧
  clT PR 69 [t47] w38 fun t48 w39 =>
  (ldsT 5 (.pointer (some ⟨b32, 0, none⟩)) w39 fun u => u = t44) ∧
  (ldsT 5 t8 w39 fun u => u = t43) ∧
  bslT 78 2 2 #[(.int .i64 0), (.int .i64 0)] [(0, 2, t45), (2, 2, t48)] w39 fun t49 w40 =>
  (ldsT 5 (.pointer (some ⟨b32, 0, none⟩)) w40 fun u => u = t44) ∧
  (ldsT 5 t8 w40 fun u => u = t43) ∧
  clT PR 68 [t44, t49] w40 fun t50 w41 =>
  (ldsT 5 t8 w41 fun u => u = t43) ∧
  clT PR 67 [t43, t50] w41 fun t51 w42 =>
  R t51 w42)
  (R (.bool false) (w35.drew))))
def Flaws_FnHeapHere.H : Hints := {draw := fun i => match i with | 4 => { T := [0, 0, 0, 0, 8, 31, 63, 127, 127, 127, 0, 0, 3327, 7679, 16383], F := [10, 11] } | 8 => { T := [0, 1, 3, 3, 3, 3, 35, 115, 243, 507, 1023, 2047, 4095] } | _ => {}}
theorem Flaws_FnHeapHere.eq (t0 : Value) : trF PR CX Flaws_FnHeapHere.H Tryz.f16 [t0] = Flaws_FnHeapHere t0 := by kernel_rfl
theorem Flaws_FnHeapHere.cl {t0 : Value} {w : World} {R : VW} (h : Flaws_FnHeapHere t0 w R) : clT PR 16 [t0] w R := cl_of_tr (H := Flaws_FnHeapHere.H) ctxOk Tryz.func16 rfl (by rw [Flaws_FnHeapHere.eq]; exact h)
end Go.PT
