/- The reflected texts of functions of the program, and that a call keeps what its text says. -/
import Derived.Test.YtegddhbcglghdaaGreatCtx
set_option linter.unusedVariables false
set_option maxRecDepth 100000
namespace Go.PT
open Go.Proofs
/-! function 8: laws_FnHeapDrop -/
def Flaws_FnHeapDrop (t0 : Value) (w : World) (R : VW) : Prop :=
  lenT t0 fun t11 =>
  binT .gtr t11 (.int .i64 1048576) fun t12 =>
  condT t12
  (R (.bool true) w)
  (clT PR 62 [t0] w fun t15 w1 =>
  extT t15 0 fun t16 =>
  extT t15 1 fun t17 =>
  allocT 42 #[(.slice none 0 0)] w1 fun t3 w2 =>
  allocT 57 #[(.slice none 0 0), (.int .i64 0), (.int .i64 0), (.slice none 0 0), (.int .i64 0)] w2 fun t4 w3 =>
  stsT 1 t3 t16 w3 fun w4 =>
  stsT 5 t4 t17 w4 fun w5 =>
  ldsT 1 t3 (w5.drew) fun t19 =>
  ldsT 5 t4 (w5.drew) fun t20 =>
  bldT #[(.int .i64 0), (.int .i64 0)] [(0, 1, (.int .i64 4))] fun t21 =>
  bldT #[(.int .i64 0), (.int .i64 0)] [] fun t23 =>
  arT [(42, #[(.slice none 0 0)]), (57, #[(.slice none 0 0), (.int .i64 0), (.int .i64 0), (.slice none 0 0), (.int .i64 0)])] (w5.drew) [none, none] fun w6 s7 =>
  clT PR 64 [(.int .i64 7)] w6 fun t22 w8 =>
  (ldsT 5 t4 w8 fun u => u = t20) ∧
  (ldsT 1 t3 w8 fun u => u = t19) ∧
  arT [(42, #[(.slice none 0 0)]), (57, #[(.slice none 0 0), (.int .i64 0), (.int .i64 0), (.slice none 0 0), (.int .i64 0)])] w8 s7 fun w9 s10 =>
  bslT 78 2 2 #[(.int .i64 0), (.int .i64 0)] [(0, 2, t22), (2, 2, t23)] w9 fun t24 w11 =>
  (ldsT 5 t4 w11 fun u => u = t20) ∧
  (ldsT 1 t3 w11 fun u => u = t19) ∧
  arT [(42, #[(.slice none 0 0)]), (57, #[(.slice none 0 0), (.int .i64 0), (.int .i64 0), (.slice none 0 0), (.int .i64 0)])] w11 s10 fun w12 s13 =>
  clT PR 63 [t19, t20, t21, t24] w12 fun t25 w14 =>
  extT t25 0 fun t26 =>
  extT t25 1 fun t27 =>
  extT t25 2 fun t28 =>
  arT [(42, #[(.slice none 0 0)]), (57, #[(.slice none 0 0), (.int .i64 0), (.int .i64 0), (.slice none 0 0), (.int .i64 0)])] w14 s13 fun w15 s16 =>
  ndT s16 0 fun b17 =>
  ndT s16 1 fun b18 =>
  stsT 1 (.pointer (some ⟨b17, 0, none⟩)) t26 w15 fun w19 =>
  arT [(42, #[(.slice none 0 0)]), (57, #[(.slice none 0 0), (.int .i64 0), (.int .i64 0), (.slice none 0 0), (.int .i64 0)])] w19 s16 fun w20 s21 =>
  ndT s21 0 fun b22 =>
  ndT s21 1 fun b23 =>
  stsT 5 (.pointer (some ⟨b23, 0, none⟩)) t27 w20 fun w24 =>
  arT [(42, #[(.slice none 0 0)]), (57, #[(.slice none 0 0), (.int .i64 0), (.int .i64 0), (.slice none 0 0), (.int .i64 0)])] w24 s21 fun w25 s26 =>
  ndT s26 0 fun b27 =>
  ndT s26 1 fun b28 =>
  arT [(42, #[(.slice none 0 0)]), (57, #[(.slice none 0 0), (.int .i64 0), (.int .i64 0), (.slice none 0 0), (.int .i64 0)])] w25 s26 fun w29 s30 =>
  ndT s30 0 fun b31 =>
  ndT s30 1 fun b32 =>
  ldsT 1 (.pointer (some ⟨b31, 0, none⟩)) w29 fun t30 =>
  ldsT 5 (.pointer (some ⟨b32, 0, none⟩)) w29 fun t31 =>
  clT PR 65 [t30, t31] w29 fun t32 w33 =>
  extT t32 0 fun t33 =>
  extT t32 1 fun t34 =>
  allocT 57 #[(.slice none 0 0), (.int .i64 0), (.int .i64 0), (.slice none 0 0), (.int .i64 0)] w33 fun t8 w34 =>
  stsT 5 t8 t33 w34 fun w35 =>
  notT t28 fun t36 =>
  condT t36
  (ldsT 1 (.pointer (some ⟨b31, 0, none⟩)) w35 fun t38 =>
  ldsT 5 (.pointer (some ⟨b32, 0, none⟩)) w35 fun t39 =>
  clT PR 66 [t38, t39] w35 fun t40 w36 =>
  opT PR (do eqGuard .eql 4 (.tmp 37) (.tmp 40) t34 t40; binOp .eql 4 t34 t40) w36 fun t41 w37 =>
  R t41 w37)
  (condT t34
  (ldsT 5 t8 (w35.drew) fun t44 =>
  ldsT 5 (.pointer (some ⟨b32, 0, none⟩)) (w35.drew) fun t45 =>
  clT PR 64 [(.int .i64 7)] (w35.drew) fun t46 w38 =>
  (ldsT 5 (.pointer (some ⟨b32, 0, none⟩)) w38 fun u => u = t45) ∧
  (ldsT 5 t8 w38 fun u => u = t44) ∧
  bslT 78 1 2 #[(.int .i64 0), (.int .i64 0)] [(0, 2, t46)] w38 fun t47 w39 =>
  (ldsT 5 (.pointer (some ⟨b32, 0, none⟩)) w39 fun u => u = t45) ∧
  (ldsT 5 t8 w39 fun u => u = t44) ∧
  clT PR 68 [t45, t47] w39 fun t48 w40 =>
  (ldsT 5 t8 w40 fun u => u = t44) ∧
  clT PR 67 [t44, t48] w40 fun t49 w41 =>
  R t49 w41)
  (R (.bool false) (w35.drew))))
def Flaws_FnHeapDrop.H : Hints := {draw := fun i => match i with | 4 => { T := [0, 0, 0, 0, 0, 24, 63, 127, 255, 255, 255, 0, 0, 6655, 15359, 32767], F := [11, 12] } | 8 => { T := [0, 1, 3, 3, 3, 19, 59, 127, 255, 511] } | _ => {}}
theorem Flaws_FnHeapDrop.eq (t0 : Value) : trF PR CX Flaws_FnHeapDrop.H Tryz.f8 [t0] = Flaws_FnHeapDrop t0 := by kernel_rfl
theorem Flaws_FnHeapDrop.cl {t0 : Value} {w : World} {R : VW} (h : Flaws_FnHeapDrop t0 w R) : clT PR 8 [t0] w R := cl_of_tr (H := Flaws_FnHeapDrop.H) ctxOk Tryz.func8 rfl (by rw [Flaws_FnHeapDrop.eq]; exact h)
end Go.PT
