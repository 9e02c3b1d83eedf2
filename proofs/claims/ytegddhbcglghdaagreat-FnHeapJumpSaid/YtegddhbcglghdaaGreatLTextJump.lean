/- The reflected texts of functions of the program, and that a call keeps what its text says. -/
import Derived.Test.YtegddhbcglghdaaGreatCtx
set_option linter.unusedVariables false
set_option maxRecDepth 100000
namespace Go.PT
open Go.Proofs
/-! function 9: laws_FnHeapJump -/
def Flaws_FnHeapJump (t0 t1 : Value) (w : World) (R : VW) : Prop :=
  lenT t0 fun t15 =>
  binT .gtr t15 (.int .i64 1048576) fun t16 =>
  condT t16
  (R (.bool true) w)
  (lenT t1 fun t19 =>
  binT .gtr t19 (.int .i64 1048576) fun t20 =>
  condT t20
  (R (.bool true) w)
  (clT PR 62 [t0] w fun t24 w1 =>
  extT t24 0 fun t25 =>
  extT t24 1 fun t26 =>
  allocT 42 #[(.slice none 0 0)] w1 fun t5 w2 =>
  allocT 57 #[(.slice none 0 0), (.int .i64 0), (.int .i64 0), (.slice none 0 0), (.int .i64 0)] w2 fun t6 w3 =>
  stsT 1 t5 t25 w3 fun w4 =>
  stsT 5 t6 t26 w4 fun w5 =>
  lenT t1 fun t28 =>
  binT .rem t28 (.int .i64 14) fun t29 =>
  ldsT 1 t5 (w5.drew) fun t31 =>
  ldsT 5 t6 (w5.drew) fun t32 =>
  bldT #[(.int .i64 0), (.int .i64 0)] [(0, 1, (.int .i64 7)), (1, 1, t29)] fun t34 =>
  arT [(42, #[(.slice none 0 0)]), (57, #[(.slice none 0 0), (.int .i64 0), (.int .i64 0), (.slice none 0 0), (.int .i64 0)])] (w5.drew) [none, none] fun w6 s7 =>
  clT PR 64 [(.int .i64 7)] w6 fun t35 w8 =>
  (ldsT 5 t6 w8 fun u => u = t32) ∧
  (ldsT 1 t5 w8 fun u => u = t31) ∧
  arT [(42, #[(.slice none 0 0)]), (57, #[(.slice none 0 0), (.int .i64 0), (.int .i64 0), (.slice none 0 0), (.int .i64 0)])] w8 s7 fun w9 s10 =>
  bslT 78 1 2 #[(.int .i64 0), (.int .i64 0)] [(0, 2, t35)] w9 fun t36 w11 =>
  (ldsT 5 t6 w11 fun u => u = t32) ∧
  (ldsT 1 t5 w11 fun u => u = t31) ∧
  arT [(42, #[(.slice none 0 0)]), (57, #[(.slice none 0 0), (.int .i64 0), (.int .i64 0), (.slice none 0 0), (.int .i64 0)])] w11 s10 fun w12 s13 =>
  clT PR 63 [t31, t32, t34, t36] w12 fun t37 w14 =>
  extT t37 0 fun t38 =>
  extT t37 1 fun t39 =>
  extT t37 2 fun t40 =>
  arT [(42, #[(.slice none 0 0)]), (57, #[(.slice none 0 0), (.int .i64 0), (.int .i64 0), (.slice none 0 0), (.int .i64 0)])] w14 s13 fun w15 s16 =>
  ndT s16 0 fun b17 =>
  ndT s16 1 fun b18 =>
  stsT 1 (.pointer (some ⟨b17, 0, none⟩)) t38 w15 fun w19 =>
  arT [(42, #[(.slice none 0 0)]), (57, #[(.slice none 0 0), (.int .i64 0), (.int .i64 0), (.slice none 0 0), (.int .i64 0)])] w19 s16 fun w20 s21 =>
  ndT s21 0 fun b22 =>
  ndT s21 1 fun b23 =>
  stsT 5 (.pointer (some ⟨b23, 0, none⟩)) t39 w20 fun w24 =>
  arT [(42, #[(.slice none 0 0)]), (57, #[(.slice none 0 0), (.int .i64 0), (.int .i64 0), (.slice none 0 0), (.int .i64 0)])] w24 s21 fun w25 s26 =>
  ndT s26 0 fun b27 =>
  ndT s26 1 fun b28 =>
  arT [(42, #[(.slice none 0 0)]), (57, #[(.slice none 0 0), (.int .i64 0), (.int .i64 0), (.slice none 0 0), (.int .i64 0)])] w25 s26 fun w29 s30 =>
  ndT s30 0 fun b31 =>
  ndT s30 1 fun b32 =>
  ldsT 1 (.pointer (some ⟨b31, 0, none⟩)) w29 fun t42 =>
  ldsT 5 (.pointer (some ⟨b32, 0, none⟩)) w29 fun t43 =>
  clT PR 65 [t42, t43] w29 fun t44 w33 =>
  extT t44 0 fun t45 =>
  extT t44 1 fun t46 =>
  allocT 57 #[(.slice none 0 0), (.int .i64 0), (.int .i64 0), (.slice none 0 0), (.int .i64 0)] w33 fun t11 w34 =>
  stsT 5 t11 t45 w34 fun w35 =>
  notT t40 fun t48 =>
  condT t48
  (ldsT 1 (.pointer (some ⟨b31, 0, none⟩)) w35 fun t50 =>
  ldsT 5 (.pointer (some ⟨b32, 0, none⟩)) w35 fun t51 =>
  clT PR 66 [t50, t51] w35 fun t52 w36 =>
  opT PR (do eqGuard .eql 4 (.tmp 49) (.tmp 52) t46 t52; binOp .eql 4 t46 t52) w36 fun t53 w37 =>
  R t53 w37)
  (ldsT 5 (.pointer (some ⟨b32, 0, none⟩)) (w35.drew) fun t54 =>
  arT [(57, #[(.slice none 0 0), (.int .i64 0), (.int .i64 0), (.slice none 0 0), (.int .i64 0)])] (w35.drew) [none] fun w38 s39 =>
  clT PR 64 [(.int .i64 7)] w38 fun t55 w40 =>
  (ldsT 5 (.pointer (some ⟨b32, 0, none⟩)) w40 fun u => u = t54) ∧
  arT [(57, #[(.slice none 0 0), (.int .i64 0), (.int .i64 0), (.slice none 0 0), (.int .i64 0)])] w40 s39 fun w41 s42 =>
  bslT 78 1 2 #[(.int .i64 0), (.int .i64 0)] [(0, 2, t55)] w41 fun t56 w43 =>
  (ldsT 5 (.pointer (some ⟨b32, 0, none⟩)) w43 fun u => u = t54) ∧
  arT [(57, #[(.slice none 0 0), (.int .i64 0), (.int .i64 0), (.slice none 0 0), (.int .i64 0)])] w43 s42 fun w44 s45 =>
  clT PR 68 [t54, t56] w44 fun t57 w46 =>
  arT [(57, #[(.slice none 0 0), (.int .i64 0), (.int .i64 0), (.slice none 0 0), (.int .i64 0)])] w46 s45 fun w47 s48 =>
  ndT s48 0 fun b49 =>
  stsT 5 (.pointer (some ⟨b49, 0, none⟩)) t57 w47 fun w50 =>
  arT [(57, #[(.slice none 0 0), (.int .i64 0), (.int .i64 0), (.slice none 0 0), (.int .i64 0)])] w50 s48 fun w51 s52 =>
  ndT s52 0 fun b53 =>
  fadT 0 (.pointer (some ⟨b53, 0, none⟩)) fun t58 =>
  ldT t58 w51 fun t59 =>
  fadT 1 (.pointer (some ⟨b53, 0, none⟩)) fun t60 =>
  ldT t60 w51 fun t61 =>
  ixaT 6 t59 t61 fun t63 =>
  fadT 1 t63 fun t64 =>
  stT t64 t29 w51 fun w54 =>
  condT t46
  (ldsT 5 t11 w54 fun t67 =>
  ldsT 5 (.pointer (some ⟨b53, 0, none⟩)) w54 fun t68 =>
  clT PR 67 [t67, t68] w54 fun t69 w55 =>
  R t69 w55)
  (R (.bool false) w54))))
def Flaws_FnHeapJump.H : Hints := {draw := fun i => match i with | 5 => { T := [0, 0, 0, 4, 0, 16, 63, 127, 255, 255, 255, 0, 0, 6655, 15359, 32767], F := [11, 12] } | 9 => { T := [0, 0, 2, 7, 0, 31], F := [4] } | _ => {}}
theorem Flaws_FnHeapJump.eq (t0 t1 : Value) : trF PR CX Flaws_FnHeapJump.H Tryz.f9 [t0, t1] = Flaws_FnHeapJump t0 t1 := by kernel_rfl
theorem Flaws_FnHeapJump.cl {t0 t1 : Value} {w : World} {R : VW} (h : Flaws_FnHeapJump t0 t1 w R) : clT PR 9 [t0, t1] w R := cl_of_tr (H := Flaws_FnHeapJump.H) ctxOk Tryz.func9 rfl (by rw [Flaws_FnHeapJump.eq]; exact h)
end Go.PT
