/- The reflected texts of functions of the program, and that a call keeps what its text says. -/
import Derived.Test.YtegddhbcglghdaaGreatCtx
set_option linter.unusedVariables false
set_option maxRecDepth 100000
namespace Go.PT
open Go.Proofs
/-! function 21: laws_FnHeapSender -/
def Flaws_FnHeapSender.j1 (x9 x11 x12 x13 : Value) (w : World) (R : VW) : Prop := ∀ _ : Env,
  condT x12
  (ldsT 5 x11 (w.drew) fun t76 =>
  ldsT 5 x9 (w.drew) fun t77 =>
  ldsT 2 x13 (w.drew) fun t79 =>
  clT PR 64 [(.int .i64 7)] (w.drew) fun t78 w46 =>
  (ldsT 2 x13 w46 fun u => u = t79) ∧
  (ldsT 5 x9 w46 fun u => u = t77) ∧
  (ldsT 5 x11 w46 fun u => u = t76) ∧
  bslT 78 2 2 #[(.int .i64 0), (.int .i64 0)] [(0, 2, t78), (2, 2, t79)] w46 fun t80 w47 =>
  (ldsT 5 x9 w47 fun u => u = t77) ∧
  (ldsT 5 x11 w47 fun u => u = t76) ∧
  clT PR 68 [t77, t80] w47 fun t81 w48 =>
  (ldsT 5 x11 w48 fun u => u = t76) ∧
  clT PR 67 [t76, t81] w48 fun t82 w49 =>
  R t82 w49)
  (R (.bool false) (w.drew))
def Flaws_FnHeapSender (t0 t1 : Value) (w : World) (R : VW) : Prop :=
  lenT t0 fun t15 =>
  binT .gtr t15 (.int .i64 1048576) fun t16 =>
  condT t16
  (R (.bool true) w)
  (lenT t1 fun t19 =>
  binT .gtr t19 (.int .i64 1048576) fun t20 =>
  condT t20
  (R (.bool true) w)
  (clT PR 62 [t0] w fun t24 w1 =>
  extT t24 0 fun t25 =>
  extT t24 1 fun t26 =>
  allocT 42 #[(.slice none 0 0)] w1 fun t5 w2 =>
  allocT 57 #[(.slice none 0 0), (.int .i64 0), (.int .i64 0), (.slice none 0 0), (.int .i64 0)] w2 fun t6 w3 =>
  stsT 1 t5 t25 w3 fun w4 =>
  stsT 5 t6 t26 w4 fun w5 =>
  lenT t1 fun t28 =>
  fadT 0 t6 fun t29 =>
  ldT t29 w5 fun t30 =>
  lenT t30 fun t31 =>
  opT PR (Builtin.max_ #[3, 3] 3 #[t31, (.int .i64 1)]) w5 fun t32 w6 =>
  binT .rem t28 t32 fun t33 =>
  ldsT 1 t5 (w6.drew) fun t35 =>
  ldsT 5 t6 (w6.drew) fun t36 =>
  bldT #[(.int .i64 0), (.int .i64 0)] [(0, 1, (.int .i64 12))] fun t37 =>
  arT [(42, #[(.slice none 0 0)]), (57, #[(.slice none 0 0), (.int .i64 0), (.int .i64 0), (.slice none 0 0), (.int .i64 0)])] (w6.drew) [none, none] fun w7 s8 =>
  clT PR 64 [(.int .i64 7)] w7 fun t38 w9 =>
  (ldsT 5 t6 w9 fun u => u = t36) ∧
  (ldsT 1 t5 w9 fun u => u = t35) ∧
  arT [(42, #[(.slice none 0 0)]), (57, #[(.slice none 0 0), (.int .i64 0), (.int .i64 0), (.slice none 0 0), (.int .i64 0)])] w9 s8 fun w10 s11 =>
  clT PR 69 [t33] w10 fun t40 w12 =>
  (ldsT 5 t6 w12 fun u => u = t36) ∧
  (ldsT 1 t5 w12 fun u => u = t35) ∧
  arT [(42, #[(.slice none 0 0)]), (57, #[(.slice none 0 0), (.int .i64 0), (.int .i64 0), (.slice none 0 0), (.int .i64 0)])] w12 s11 fun w13 s14 =>
  bslT 78 2 2 #[(.int .i64 0), (.int .i64 0)] [(0, 2, t38), (2, 2, t40)] w13 fun t41 w15 =>
  (ldsT 5 t6 w15 fun u => u = t36) ∧
  (ldsT 1 t5 w15 fun u => u = t35) ∧
  arT [(42, #[(.slice none 0 0)]), (57, #[(.slice none 0 0), (.int .i64 0), (.int .i64 0), (.slice none 0 0), (.int .i64 0)])] w15 s14 fun w16 s17 =>
  clT PR 63 [t35, t36, t37, t41] w16 fun t42 w18 =>
  extT t42 0 fun t43 =>
  extT t42 1 fun t44 =>
  extT t42 2 fun t45 =>
  arT [(42, #[(.slice none 0 0)]), (57, #[(.slice none 0 0), (.int .i64 0), (.int .i64 0), (.slice none 0 0), (.int .i64 0)])] w18 s17 fun w19 s20 =>
  ndT s20 0 fun b21 =>
  ndT s20 1 fun b22 =>
  stsT 1 (.pointer (some ⟨b21, 0, none⟩)) t43 w19 fun w23 =>
  arT [(42, #[(.slice none 0 0)]), (57, #[(.slice none 0 0), (.int .i64 0), (.int .i64 0), (.slice none 0 0), (.int .i64 0)])] w23 s20 fun w24 s25 =>
  ndT s25 0 fun b26 =>
  ndT s25 1 fun b27 =>
  stsT 5 (.pointer (some ⟨b27, 0, none⟩)) t44 w24 fun w28 =>
  arT [(42, #[(.slice none 0 0)]), (57, #[(.slice none 0 0), (.int .i64 0), (.int .i64 0), (.slice none 0 0), (.int .i64 0)])] w28 s25 fun w29 s30 =>
  ndT s30 0 fun b31 =>
  ndT s30 1 fun b32 =>
  arT [(42, #[(.slice none 0 0)]), (57, #[(.slice none 0 0), (.int .i64 0), (.int .i64 0), (.slice none 0 0), (.int .i64 0)])] w29 s30 fun w33 s34 =>
  ndT s34 0 fun b35 =>
  ndT s34 1 fun b36 =>
  ldsT 1 (.pointer (some ⟨b35, 0, none⟩)) w33 fun t47 =>
  ldsT 5 (.pointer (some ⟨b36, 0, none⟩)) w33 fun t48 =>
  clT PR 65 [t47, t48] w33 fun t49 w37 =>
  extT t49 0 fun t50 =>
  extT t49 1 fun t51 =>
  allocT 57 #[(.slice none 0 0), (.int .i64 0), (.int .i64 0), (.slice none 0 0), (.int .i64 0)] w37 fun t11 w38 =>
  stsT 5 t11 t50 w38 fun w39 =>
  notT t45 fun t53 =>
  condT t53
  (ldsT 1 (.pointer (some ⟨b35, 0, none⟩)) w39 fun t55 =>
  ldsT 5 (.pointer (some ⟨b36, 0, none⟩)) w39 fun t56 =>
  clT PR 66 [t55, t56] w39 fun t57 w40 =>
  opT PR (do eqGuard .eql 4 (.tmp 54) (.tmp 57) t51 t57; binOp .eql 4 t51 t57) w40 fun t58 w41 =>
  R t58 w41)
  (bldT #[(.int .i64 0), (.int .i64 0)] [] fun t59 =>
  allocT 78 #[(.int .i64 0), (.int .i64 0)] w39 fun t13 w42 =>
  stsT 2 t13 t59 w42 fun w43 =>
  fadT 0 (.pointer (some ⟨b36, 0, none⟩)) fun t60 =>
  ldT t60 w43 fun t61 =>
  ixaT 6 t61 t33 fun t63 =>
  fadT 4 t63 fun t64 =>
  ldT t64 w43 fun t65 =>
  binT .geq t65 (.int .i64 0) fun t66 =>
  condT t66
  (fadT 0 (.pointer (some ⟨b36, 0, none⟩)) fun t67 =>
  ldT t67 w43 fun t68 =>
  ixaT 6 t68 t33 fun t70 =>
  fadT 4 t70 fun t71 =>
  ldT t71 w43 fun t72 =>
  clT PR 69 [t72] w43 fun t73 w44 =>
  stsT 2 t13 t73 w44 fun w45 =>
  Flaws_FnHeapSender.j1 (.pointer (some ⟨b36, 0, none⟩)) t11 t51 t13 w45 R)
  (Flaws_FnHeapSender.j1 (.pointer (some ⟨b36, 0, none⟩)) t11 t51 t13 w43 R))))
def Flaws_FnHeapSender.H : Hints := {draw := fun i => match i with | 5 => { T := [0, 0, 0, 0, 0, 24, 56, 127, 255, 511, 511, 511, 0, 0, 13311, 30719, 65535], F := [12, 13] } | 12 => { T := [0, 1, 3, 3, 3, 3, 51, 123, 255, 511, 1023] } | _ => {}, join := fun i => match i with | 66 => some [9, 11, 12, 13] | _ => none}
theorem Flaws_FnHeapSender.eq (t0 t1 : Value) : trF PR CX Flaws_FnHeapSender.H Tryz.f21 [t0, t1] = Flaws_FnHeapSender t0 t1 := by kernel_rfl
theorem Flaws_FnHeapSender.cl {t0 t1 : Value} {w : World} {R : VW} (h : Flaws_FnHeapSender t0 t1 w R) : clT PR 21 [t0, t1] w R := cl_of_tr (H := Flaws_FnHeapSender.H) ctxOk Tryz.func21 rfl (by rw [Flaws_FnHeapSender.eq]; exact h)
end Go.PT
