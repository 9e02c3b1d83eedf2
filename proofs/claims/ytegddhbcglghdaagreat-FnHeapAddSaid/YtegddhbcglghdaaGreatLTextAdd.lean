/- The reflected texts of functions of the program, and that a call keeps what its text says. -/
import Derived.Test.YtegddhbcglghdaaGreatCtx
set_option linter.unusedVariables false
set_option maxRecDepth 100000
namespace Go.PT
open Go.Proofs
/-! function 6: laws_FnHeapAdd -/
def Flaws_FnHeapAdd (t0 t1 : Value) (w : World) (R : VW) : Prop :=
  lenT t0 fun t14 =>
  binT .gtr t14 (.int .i64 1048576) fun t15 =>
  condT t15
  (R (.bool true) w)
  (lenT t1 fun t18 =>
  binT .gtr t18 (.int .i64 1048576) fun t19 =>
  condT t19
  (R (.bool true) w)
  (clT PR 62 [t0] w fun t23 w1 =>
  extT t23 0 fun t24 =>
  extT t23 1 fun t25 =>
  allocT 42 #[(.slice none 0 0)] w1 fun t5 w2 =>
  allocT 57 #[(.slice none 0 0), (.int .i64 0), (.int .i64 0), (.slice none 0 0), (.int .i64 0)] w2 fun t6 w3 =>
  stsT 1 t5 t24 w3 fun w4 =>
  stsT 5 t6 t25 w4 fun w5 =>
  lenT t1 fun t27 =>
  binT .rem t27 (.int .i64 100) fun t28 =>
  binT .add (.int .i64 900) t28 fun t29 =>
  ldsT 1 t5 (w5.drew) fun t31 =>
  ldsT 5 t6 (w5.drew) fun t32 =>
  bldT #[(.int .i64 0), (.int .i64 0)] [(0, 1, (.int .i64 5))] fun t33 =>
  arT [(42, #[(.slice none 0 0)]), (57, #[(.slice none 0 0), (.int .i64 0), (.int .i64 0), (.slice none 0 0), (.int .i64 0)])] (w5.drew) [none, none] fun w6 s7 =>
  clT PR 64 [(.int .i64 7)] w6 fun t34 w8 =>
  (ldsT 5 t6 w8 fun u => u = t32) ∧
  (ldsT 1 t5 w8 fun u => u = t31) ∧
  arT [(42, #[(.slice none 0 0)]), (57, #[(.slice none 0 0), (.int .i64 0), (.int .i64 0), (.slice none 0 0), (.int .i64 0)])] w8 s7 fun w9 s10 =>
  clT PR 64 [t29] w9 fun t36 w11 =>
  (ldsT 5 t6 w11 fun u => u = t32) ∧
  (ldsT 1 t5 w11 fun u => u = t31) ∧
  arT [(42, #[(.slice none 0 0)]), (57, #[(.slice none 0 0), (.int .i64 0), (.int .i64 0), (.slice none 0 0), (.int .i64 0)])] w11 s10 fun w12 s13 =>
  clT PR 64 [(.int .i64 60)] w12 fun t37 w14 =>
  (ldsT 5 t6 w14 fun u => u = t32) ∧
  (ldsT 1 t5 w14 fun u => u = t31) ∧
  arT [(42, #[(.slice none 0 0)]), (57, #[(.slice none 0 0), (.int .i64 0), (.int .i64 0), (.slice none 0 0), (.int .i64 0)])] w14 s13 fun w15 s16 =>
  bslT 78 3 2 #[(.int .i64 0), (.int .i64 0)] [(0, 2, t34), (2, 2, t36), (4, 2, t37)] w15 fun t38 w17 =>
  (ldsT 5 t6 w17 fun u => u = t32) ∧
  (ldsT 1 t5 w17 fun u => u = t31) ∧
  arT [(42, #[(.slice none 0 0)]), (57, #[(.slice none 0 0), (.int .i64 0), (.int .i64 0), (.slice none 0 0), (.int .i64 0)])] w17 s16 fun w18 s19 =>
  clT PR 63 [t31, t32, t33, t38] w18 fun t39 w20 =>
  extT t39 0 fun t40 =>
  extT t39 1 fun t41 =>
  extT t39 2 fun t42 =>
  arT [(42, #[(.slice none 0 0)]), (57, #[(.slice none 0 0), (.int .i64 0), (.int .i64 0), (.slice none 0 0), (.int .i64 0)])] w20 s19 fun w21 s22 =>
  ndT s22 0 fun b23 =>
  ndT s22 1 fun b24 =>
  stsT 1 (.pointer (some ⟨b23, 0, none⟩)) t40 w21 fun w25 =>
  arT [(42, #[(.slice none 0 0)]), (57, #[(.slice none 0 0), (.int .i64 0), (.int .i64 0), (.slice none 0 0), (.int .i64 0)])] w25 s22 fun w26 s27 =>
  ndT s27 0 fun b28 =>
  ndT s27 1 fun b29 =>
  stsT 5 (.pointer (some ⟨b29, 0, none⟩)) t41 w26 fun w30 =>
  arT [(42, #[(.slice none 0 0)]), (57, #[(.slice none 0 0), (.int .i64 0), (.int .i64 0), (.slice none 0 0), (.int .i64 0)])] w30 s27 fun w31 s32 =>
  ndT s32 0 fun b33 =>
  ndT s32 1 fun b34 =>
  arT [(42, #[(.slice none 0 0)]), (57, #[(.slice none 0 0), (.int .i64 0), (.int .i64 0), (.slice none 0 0), (.int .i64 0)])] w31 s32 fun w35 s36 =>
  ndT s36 0 fun b37 =>
  ndT s36 1 fun b38 =>
  ldsT 1 (.pointer (some ⟨b37, 0, none⟩)) w35 fun t44 =>
  ldsT 5 (.pointer (some ⟨b38, 0, none⟩)) w35 fun t45 =>
  clT PR 65 [t44, t45] w35 fun t46 w39 =>
  extT t46 0 fun t47 =>
  extT t46 1 fun t48 =>
  allocT 57 #[(.slice none 0 0), (.int .i64 0), (.int .i64 0), (.slice none 0 0), (.int .i64 0)] w39 fun t11 w40 =>
  stsT 5 t11 t47 w40 fun w41 =>
  notT t42 fun t50 =>
  condT t50
  (ldsT 1 (.pointer (some ⟨b37, 0, none⟩)) w41 fun t52 =>
  ldsT 5 (.pointer (some ⟨b38, 0, none⟩)) w41 fun t53 =>
  clT PR 66 [t52, t53] w41 fun t54 w42 =>
  opT PR (do eqGuard .eql 4 (.tmp 51) (.tmp 54) t48 t54; binOp .eql 4 t48 t54) w42 fun t55 w43 =>
  R t55 w43)
  (condT t48
  (ldsT 5 t11 (w41.drew) fun t58 =>
  ldsT 5 (.pointer (some ⟨b38, 0, none⟩)) (w41.drew) fun t59 =>
  binT .add t29 (.int .i64 60) fun t62 =>
  binT .rem t62 (.int .i64 1000) fun t63 =>
  clT PR 64 [(.int .i64 7)] (w41.drew) fun t60 w44 =>
  (ldsT 5 (.pointer (some ⟨b38, 0, none⟩)) w44 fun u => u = t59) ∧
  (ldsT 5 t11 w44 fun u => u = t58) ∧
  clT PR 64 [t63] w44 fun t64 w45 =>
  (ldsT 5 (.pointer (some ⟨b38, 0, none⟩)) w45 fun u => u = t59) ∧
  (ldsT 5 t11 w45 fun u => u = t58) ∧
  bslT 78 2 2 #[(.int .i64 0), (.int .i64 0)] [(0, 2, t60), (2, 2, t64)] w45 fun t65 w46 =>
  (ldsT 5 (.pointer (some ⟨b38, 0, none⟩)) w46 fun u => u = t59) ∧
  (ldsT 5 t11 w46 fun u => u = t58) ∧
  clT PR 68 [t59, t65] w46 fun t66 w47 =>
  (ldsT 5 t11 w47 fun u => u = t58) ∧
  clT PR 67 [t58, t66] w47 fun t67 w48 =>
  R t67 w48)
  (R (.bool false) (w41.drew)))))
def Flaws_FnHeapAdd.H : Hints := {draw := fun i => match i with | 5 => { T := [0, 0, 0, 0, 0, 24, 56, 120, 255, 511, 1023, 1023, 1023, 0, 0, 26623, 61439, 131071], F := [13, 14] } | 9 => { T := [0, 1, 3, 3, 3, 3, 35, 99, 243, 499, 1019, 2047, 4095, 8191] } | _ => {}}
theorem Flaws_FnHeapAdd.eq (t0 t1 : Value) : trF PR CX Flaws_FnHeapAdd.H Tryz.f6 [t0, t1] = Flaws_FnHeapAdd t0 t1 := by kernel_rfl
theorem Flaws_FnHeapAdd.cl {t0 t1 : Value} {w : World} {R : VW} (h : Flaws_FnHeapAdd t0 t1 w R) : clT PR 6 [t0, t1] w R := cl_of_tr (H := Flaws_FnHeapAdd.H) ctxOk Tryz.func6 rfl (by rw [Flaws_FnHeapAdd.eq]; exact h)
end Go.PT
