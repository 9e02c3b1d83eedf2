/- The reflected texts of functions of the program, and that a call keeps what its text says. -/
import Derived.Test.YtegddhbcglghdaaGreatCtx
set_option linter.unusedVariables false
set_option maxRecDepth 100000
namespace Go.PT
open Go.Proofs
/-! function 11: laws_FnHeapPeek -/
def Flaws_FnHeapPeek.j1 (x10 x12 x13 x14 : Value) (w : World) (R : VW) : Prop := ∀ _ : Env,
  condT x13
  (ldsT 5 x12 (w.drew) fun t85 =>
  ldsT 5 x10 (w.drew) fun t86 =>
  ldsT 2 x14 (w.drew) fun t87 =>
  bslT 78 1 2 #[(.int .i64 0), (.int .i64 0)] [(0, 2, t87)] (w.drew) fun t88 w42 =>
  (ldsT 5 x10 w42 fun u => u = t86) ∧
  (ldsT 5 x12 w42 fun u => u = t85) ∧
  clT PR 68 [t86, t88] w42 fun t89 w43 =>
  (ldsT 5 x12 w43 fun u => u = t85) ∧
  clT PR 67 [t85, t89] w43 fun t90 w44 =>
  R t90 w44)
  (R (.bool false) (w.drew))
def Flaws_FnHeapPeek (t0 t1 : Value) (w : World) (R : VW) : Prop :=
  lenT t0 fun t16 =>
  binT .gtr t16 (.int .i64 1048576) fun t17 =>
  condT t17
  (R (.bool true) w)
  (lenT t1 fun t20 =>
  binT .gtr t20 (.int .i64 1048576) fun t21 =>
  condT t21
  (R (.bool true) w)
  (clT PR 62 [t0] w fun t25 w1 =>
  extT t25 0 fun t26 =>
  extT t25 1 fun t27 =>
  allocT 42 #[(.slice none 0 0)] w1 fun t5 w2 =>
  allocT 57 #[(.slice none 0 0), (.int .i64 0), (.int .i64 0), (.slice none 0 0), (.int .i64 0)] w2 fun t6 w3 =>
  stsT 1 t5 t26 w3 fun w4 =>
  stsT 5 t6 t27 w4 fun w5 =>
  lenT t1 fun t29 =>
  fadT 0 t6 fun t30 =>
  ldT t30 w5 fun t31 =>
  lenT t31 fun t32 =>
  opT PR (Builtin.max_ #[3, 3] 3 #[t32, (.int .i64 1)]) w5 fun t33 w6 =>
  binT .rem t29 t33 fun t34 =>
  lenT t1 fun t36 =>
  binT .quo t36 (.int .i64 2) fun t37 =>
  binT .rem t37 (.int .i64 4) fun t38 =>
  ldsT 1 t5 (w6.drew) fun t40 =>
  ldsT 5 t6 (w6.drew) fun t41 =>
  bldT #[(.int .i64 0), (.int .i64 0)] [(0, 1, (.int .i64 13)), (1, 1, t38)] fun t43 =>
  arT [(42, #[(.slice none 0 0)]), (57, #[(.slice none 0 0), (.int .i64 0), (.int .i64 0), (.slice none 0 0), (.int .i64 0)])] (w6.drew) [none, none] fun w7 s8 =>
  clT PR 69 [t34] w7 fun t45 w9 =>
  (ldsT 5 t6 w9 fun u => u = t41) ∧
  (ldsT 1 t5 w9 fun u => u = t40) ∧
  arT [(42, #[(.slice none 0 0)]), (57, #[(.slice none 0 0), (.int .i64 0), (.int .i64 0), (.slice none 0 0), (.int .i64 0)])] w9 s8 fun w10 s11 =>
  bslT 78 1 2 #[(.int .i64 0), (.int .i64 0)] [(0, 2, t45)] w10 fun t46 w12 =>
  (ldsT 5 t6 w12 fun u => u = t41) ∧
  (ldsT 1 t5 w12 fun u => u = t40) ∧
  arT [(42, #[(.slice none 0 0)]), (57, #[(.slice none 0 0), (.int .i64 0), (.int .i64 0), (.slice none 0 0), (.int .i64 0)])] w12 s11 fun w13 s14 =>
  clT PR 63 [t40, t41, t43, t46] w13 fun t47 w15 =>
  extT t47 0 fun t48 =>
  extT t47 1 fun t49 =>
  extT t47 2 fun t50 =>
  arT [(42, #[(.slice none 0 0)]), (57, #[(.slice none 0 0), (.int .i64 0), (.int .i64 0), (.slice none 0 0), (.int .i64 0)])] w15 s14 fun w16 s17 =>
  ndT s17 0 fun b18 =>
  ndT s17 1 fun b19 =>
  stsT 1 (.pointer (some ⟨b18, 0, none⟩)) t48 w16 fun w20 =>
  arT [(42, #[(.slice none 0 0)]), (57, #[(.slice none 0 0), (.int .i64 0), (.int .i64 0), (.slice none 0 0), (.int .i64 0)])] w20 s17 fun w21 s22 =>
  ndT s22 0 fun b23 =>
  ndT s22 1 fun b24 =>
  stsT 5 (.pointer (some ⟨b24, 0, none⟩)) t49 w21 fun w25 =>
  arT [(42, #[(.slice none 0 0)]), (57, #[(.slice none 0 0), (.int .i64 0), (.int .i64 0), (.slice none 0 0), (.int .i64 0)])] w25 s22 fun w26 s27 =>
  ndT s27 0 fun b28 =>
  ndT s27 1 fun b29 =>
  arT [(42, #[(.slice none 0 0)]), (57, #[(.slice none 0 0), (.int .i64 0), (.int .i64 0), (.slice none 0 0), (.int .i64 0)])] w26 s27 fun w30 s31 =>
  ndT s31 0 fun b32 =>
  ndT s31 1 fun b33 =>
  ldsT 1 (.pointer (some ⟨b32, 0, none⟩)) w30 fun t52 =>
  ldsT 5 (.pointer (some ⟨b33, 0, none⟩)) w30 fun t53 =>
  clT PR 65 [t52, t53] w30 fun t54 w34 =>
  extT t54 0 fun t55 =>
  extT t54 1 fun t56 =>
  allocT 57 #[(.slice none 0 0), (.int .i64 0), (.int .i64 0), (.slice none 0 0), (.int .i64 0)] w34 fun t12 w35 =>
  stsT 5 t12 t55 w35 fun w36 =>
  notT t50 fun t58 =>
  condT t58
  (ldsT 1 (.pointer (some ⟨b32, 0, none⟩)) w36 fun t60 =>
  ldsT 5 (.pointer (some ⟨b33, 0, none⟩)) w36 fun t61 =>
  clT PR 66 [t60, t61] w36 fun t62 w37 =>
  opT PR (do eqGuard .eql 4 (.tmp 59) (.tmp 62) t56 t62; binOp .eql 4 t56 t62) w37 fun t63 w38 =>
  R t63 w38)
  (bldT #[(.int .i64 0), (.int .i64 0)] [] fun t64 =>
  allocT 78 #[(.int .i64 0), (.int .i64 0)] w36 fun t14 w39 =>
  stsT 2 t14 t64 w39 fun w40 =>
  fadT 0 (.pointer (some ⟨b33, 0, none⟩)) fun t66 =>
  ldT t66 w40 fun t67 =>
  ixaT 6 t67 t34 fun t69 =>
  fadT 2 t69 fun t70 =>
  ldT t70 w40 fun t71 =>
  lenT t71 fun t72 =>
  binT .lss t38 t72 fun t73 =>
  condT t73
  (fadT 0 (.pointer (some ⟨b33, 0, none⟩)) fun t74 =>
  ldT t74 w40 fun t75 =>
  ixaT 6 t75 t34 fun t77 =>
  fadT 2 t77 fun t78 =>
  ldT t78 w40 fun t79 =>
  ixaT 2 t79 t38 fun t81 =>
  ldsT 2 t81 w40 fun t82 =>
  stsT 2 t14 t82 w40 fun w41 =>
  Flaws_FnHeapPeek.j1 (.pointer (some ⟨b33, 0, none⟩)) t12 t56 t14 w41 R)
  (Flaws_FnHeapPeek.j1 (.pointer (some ⟨b33, 0, none⟩)) t12 t56 t14 w40 R))))
def Flaws_FnHeapPeek.H : Hints := {draw := fun i => match i with | 6 => { T := [0, 0, 0, 4, 0, 16, 48, 127, 255, 511, 511, 511, 0, 0, 13311, 30719, 65535], F := [12, 13] } | 13 => { T := [0, 1, 3, 3, 3, 19, 59, 127, 255, 511] } | _ => {}, join := fun i => match i with | 73 => some [10, 12, 13, 14] | _ => none}
theorem Flaws_FnHeapPeek.eq (t0 t1 : Value) : trF PR CX Flaws_FnHeapPeek.H Tryz.f11 [t0, t1] = Flaws_FnHeapPeek t0 t1 := by kernel_rfl
theorem Flaws_FnHeapPeek.cl {t0 t1 : Value} {w : World} {R : VW} (h : Flaws_FnHeapPeek t0 t1 w R) : clT PR 11 [t0, t1] w R := cl_of_tr (H := Flaws_FnHeapPeek.H) ctxOk Tryz.func11 rfl (by rw [Flaws_FnHeapPeek.eq]; exact h)
end Go.PT
