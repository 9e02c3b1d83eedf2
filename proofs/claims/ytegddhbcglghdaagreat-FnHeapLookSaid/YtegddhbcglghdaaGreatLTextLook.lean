/- The reflected texts of functions of the program, and that a call keeps what its text says. -/
import Derived.Test.YtegddhbcglghdaaGreatCtx
set_option linter.unusedVariables false
set_option maxRecDepth 100000
namespace Go.PT
open Go.Proofs
/-! function 17: laws_FnHeapLook -/
def Flaws_FnHeapLook.j1 (x9 x11 x12 x13 : Value) (w : World) (R : VW) : Prop := ∀ _ : Env,
  condT x12
  (ldsT 5 x11 (w.drew) fun t66 =>
  ldsT 5 x9 (w.drew) fun t67 =>
  clT PR 64 [x13] (w.drew) fun t69 w39 =>
  (ldsT 5 x9 w39 fun u => u = t67) ∧
  (ldsT 5 x11 w39 fun u => u = t66) ∧
  bslT 78 1 2 #[(.int .i64 0), (.int .i64 0)] [(0, 2, t69)] w39 fun t70 w40 =>
  (ldsT 5 x9 w40 fun u => u = t67) ∧
  (ldsT 5 x11 w40 fun u => u = t66) ∧
  clT PR 68 [t67, t70] w40 fun t71 w41 =>
  (ldsT 5 x11 w41 fun u => u = t66) ∧
  clT PR 67 [t66, t71] w41 fun t72 w42 =>
  R t72 w42)
  (R (.bool false) (w.drew))
def Flaws_FnHeapLook (t0 t1 : Value) (w : World) (R : VW) : Prop :=
  lenT t0 fun t15 =>
  binT .gtr t15 (.int .i64 1048576) fun t16 =>
  condT t16
  (R (.bool true) w)
  (lenT t1 fun t19 =>
  binT .gtr t19 (.int .i64 1048576) fun t20 =>
  condT t20
  (R (.bool true) w)
  (clT PR 62 [t0] w fun t24 w1 =>
  extT t24 0 fun t25 =>
  extT t24 1 fun t26 =>
  allocT 42 #[(.slice none 0 0)] w1 fun t5 w2 =>
  allocT 57 #[(.slice none 0 0), (.int .i64 0), (.int .i64 0), (.slice none 0 0), (.int .i64 0)] w2 fun t6 w3 =>
  stsT 1 t5 t25 w3 fun w4 =>
  stsT 5 t6 t26 w4 fun w5 =>
  lenT t1 fun t28 =>
  fadT 0 t6 fun t29 =>
  ldT t29 w5 fun t30 =>
  lenT t30 fun t31 =>
  opT PR (Builtin.max_ #[3, 3] 3 #[t31, (.int .i64 1)]) w5 fun t32 w6 =>
  binT .rem t28 t32 fun t33 =>
  ldsT 1 t5 (w6.drew) fun t35 =>
  ldsT 5 t6 (w6.drew) fun t36 =>
  bldT #[(.int .i64 0), (.int .i64 0)] [(0, 1, (.int .i64 17))] fun t37 =>
  arT [(42, #[(.slice none 0 0)]), (57, #[(.slice none 0 0), (.int .i64 0), (.int .i64 0), (.slice none 0 0), (.int .i64 0)])] (w6.drew) [none, none] fun w7 s8 =>
  clT PR 69 [t33] w7 fun t39 w9 =>
  (ldsT 5 t6 w9 fun u => u = t36) ∧
  (ldsT 1 t5 w9 fun u => u = t35) ∧
  arT [(42, #[(.slice none 0 0)]), (57, #[(.slice none 0 0), (.int .i64 0), (.int .i64 0), (.slice none 0 0), (.int .i64 0)])] w9 s8 fun w10 s11 =>
  bslT 78 1 2 #[(.int .i64 0), (.int .i64 0)] [(0, 2, t39)] w10 fun t40 w12 =>
  (ldsT 5 t6 w12 fun u => u = t36) ∧
  (ldsT 1 t5 w12 fun u => u = t35) ∧
  arT [(42, #[(.slice none 0 0)]), (57, #[(.slice none 0 0), (.int .i64 0), (.int .i64 0), (.slice none 0 0), (.int .i64 0)])] w12 s11 fun w13 s14 =>
  clT PR 63 [t35, t36, t37, t40] w13 fun t41 w15 =>
  extT t41 0 fun t42 =>
  extT t41 1 fun t43 =>
  extT t41 2 fun t44 =>
  arT [(42, #[(.slice none 0 0)]), (57, #[(.slice none 0 0), (.int .i64 0), (.int .i64 0), (.slice none 0 0), (.int .i64 0)])] w15 s14 fun w16 s17 =>
  ndT s17 0 fun b18 =>
  ndT s17 1 fun b19 =>
  stsT 1 (.pointer (some ⟨b18, 0, none⟩)) t42 w16 fun w20 =>
  arT [(42, #[(.slice none 0 0)]), (57, #[(.slice none 0 0), (.int .i64 0), (.int .i64 0), (.slice none 0 0), (.int .i64 0)])] w20 s17 fun w21 s22 =>
  ndT s22 0 fun b23 =>
  ndT s22 1 fun b24 =>
  stsT 5 (.pointer (some ⟨b24, 0, none⟩)) t43 w21 fun w25 =>
  arT [(42, #[(.slice none 0 0)]), (57, #[(.slice none 0 0), (.int .i64 0), (.int .i64 0), (.slice none 0 0), (.int .i64 0)])] w25 s22 fun w26 s27 =>
  ndT s27 0 fun b28 =>
  ndT s27 1 fun b29 =>
  arT [(42, #[(.slice none 0 0)]), (57, #[(.slice none 0 0), (.int .i64 0), (.int .i64 0), (.slice none 0 0), (.int .i64 0)])] w26 s27 fun w30 s31 =>
  ndT s31 0 fun b32 =>
  ndT s31 1 fun b33 =>
  ldsT 1 (.pointer (some ⟨b32, 0, none⟩)) w30 fun t46 =>
  ldsT 5 (.pointer (some ⟨b33, 0, none⟩)) w30 fun t47 =>
  clT PR 65 [t46, t47] w30 fun t48 w34 =>
  extT t48 0 fun t49 =>
  extT t48 1 fun t50 =>
  allocT 57 #[(.slice none 0 0), (.int .i64 0), (.int .i64 0), (.slice none 0 0), (.int .i64 0)] w34 fun t11 w35 =>
  stsT 5 t11 t49 w35 fun w36 =>
  notT t44 fun t52 =>
  condT t52
  (ldsT 1 (.pointer (some ⟨b32, 0, none⟩)) w36 fun t54 =>
  ldsT 5 (.pointer (some ⟨b33, 0, none⟩)) w36 fun t55 =>
  clT PR 66 [t54, t55] w36 fun t56 w37 =>
  opT PR (do eqGuard .eql 4 (.tmp 53) (.tmp 56) t50 t56; binOp .eql 4 t50 t56) w37 fun t57 w38 =>
  R t57 w38)
  (fadT 0 (.pointer (some ⟨b33, 0, none⟩)) fun t58 =>
  ldT t58 w36 fun t59 =>
  ixaT 6 t59 t33 fun t61 =>
  fadT 5 t61 fun t62 =>
  ldT t62 w36 fun t63 =>
  condT t63
  (Flaws_FnHeapLook.j1 (.pointer (some ⟨b33, 0, none⟩)) t11 t50 (.int .i64 1) w36 R)
  (Flaws_FnHeapLook.j1 (.pointer (some ⟨b33, 0, none⟩)) t11 t50 (.int .i64 0) w36 R))))
def Flaws_FnHeapLook.H : Hints := {draw := fun i => match i with | 5 => { T := [0, 0, 0, 0, 8, 24, 63, 127, 255, 255, 255, 0, 0, 6655, 15359, 32767], F := [11, 12] } | 12 => { T := [0, 1, 3, 3, 3, 19, 51, 123, 255, 511, 1023] } | _ => {}, join := fun i => match i with | 63 => some [9, 11, 12, 13] | _ => none}
theorem Flaws_FnHeapLook.eq (t0 t1 : Value) : trF PR CX Flaws_FnHeapLook.H Tryz.f17 [t0, t1] = Flaws_FnHeapLook t0 t1 := by kernel_rfl
theorem Flaws_FnHeapLook.cl {t0 t1 : Value} {w : World} {R : VW} (h : Flaws_FnHeapLook t0 t1 w R) : clT PR 17 [t0, t1] w R := cl_of_tr (H := Flaws_FnHeapLook.H) ctxOk Tryz.func17 rfl (by rw [Flaws_FnHeapLook.eq]; exact h)
end Go.PT
