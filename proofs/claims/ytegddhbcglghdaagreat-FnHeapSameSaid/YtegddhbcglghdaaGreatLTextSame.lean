/- The reflected texts of functions of the program, and that a call keeps what its text says. -/
import Derived.Test.YtegddhbcglghdaaGreatCtx
set_option linter.unusedVariables false
set_option maxRecDepth 100000
namespace Go.PT
open Go.Proofs
/-! function 19: laws_FnHeapSame -/
def Flaws_FnHeapSame.j1 (x11 x13 x14 x15 : Value) (w : World) (R : VW) : Prop := ∀ _ : Env,
  condT x14
  (ldsT 5 x13 (w.drew) fun t80 =>
  ldsT 5 x11 (w.drew) fun t81 =>
  clT PR 64 [x15] (w.drew) fun t83 w28 =>
  (ldsT 5 x11 w28 fun u => u = t81) ∧
  (ldsT 5 x13 w28 fun u => u = t80) ∧
  bslT 78 1 2 #[(.int .i64 0), (.int .i64 0)] [(0, 2, t83)] w28 fun t84 w29 =>
  (ldsT 5 x11 w29 fun u => u = t81) ∧
  (ldsT 5 x13 w29 fun u => u = t80) ∧
  clT PR 68 [t81, t84] w29 fun t85 w30 =>
  (ldsT 5 x13 w30 fun u => u = t80) ∧
  clT PR 67 [t80, t85] w30 fun t86 w31 =>
  R t86 w31)
  (R (.bool false) (w.drew))
def Flaws_FnHeapSame.j2 (x11 x13 x14 x15 : Value) (w : World) (R : VW) : Prop := ∀ _ : Env,
  condT x14
  (ldsT 5 x13 (w.drew) fun t80 =>
  ldsT 5 x11 (w.drew) fun t81 =>
  clT PR 64 [x15] (w.drew) fun t83 w52 =>
  (ldsT 5 x11 w52 fun u => u = t81) ∧
  (ldsT 5 x13 w52 fun u => u = t80) ∧
  bslT 78 1 2 #[(.int .i64 0), (.int .i64 0)] [(0, 2, t83)] w52 fun t84 w53 =>
  (ldsT 5 x11 w53 fun u => u = t81) ∧
  (ldsT 5 x13 w53 fun u => u = t80) ∧
  clT PR 68 [t81, t84] w53 fun t85 w54 =>
  (ldsT 5 x13 w54 fun u => u = t80) ∧
  clT PR 67 [t80, t85] w54 fun t86 w55 =>
  R t86 w55)
  (R (.bool false) (w.drew))
def Flaws_FnHeapSame.j3 (x11 x13 x14 x15 : Value) (w : World) (R : VW) : Prop := ∀ _ : Env,
  condT x14
  (ldsT 5 x13 (w.drew) fun t80 =>
  ldsT 5 x11 (w.drew) fun t81 =>
  clT PR 64 [x15] (w.drew) fun t83 w77 =>
  (ldsT 5 x11 w77 fun u => u = t81) ∧
  (ldsT 5 x13 w77 fun u => u = t80) ∧
  bslT 78 1 2 #[(.int .i64 0), (.int .i64 0)] [(0, 2, t83)] w77 fun t84 w78 =>
  (ldsT 5 x11 w78 fun u => u = t81) ∧
  (ldsT 5 x13 w78 fun u => u = t80) ∧
  clT PR 68 [t81, t84] w78 fun t85 w79 =>
  (ldsT 5 x13 w79 fun u => u = t80) ∧
  clT PR 67 [t80, t85] w79 fun t86 w80 =>
  R t86 w80)
  (R (.bool false) (w.drew))
def Flaws_FnHeapSame.j4 (x11 x13 x14 x15 : Value) (w : World) (R : VW) : Prop := ∀ _ : Env,
  condT x14
  (ldsT 5 x13 (w.drew) fun t80 =>
  ldsT 5 x11 (w.drew) fun t81 =>
  clT PR 64 [x15] (w.drew) fun t83 w103 =>
  (ldsT 5 x11 w103 fun u => u = t81) ∧
  (ldsT 5 x13 w103 fun u => u = t80) ∧
  bslT 78 1 2 #[(.int .i64 0), (.int .i64 0)] [(0, 2, t83)] w103 fun t84 w104 =>
  (ldsT 5 x11 w104 fun u => u = t81) ∧
  (ldsT 5 x13 w104 fun u => u = t80) ∧
  clT PR 68 [t81, t84] w104 fun t85 w105 =>
  (ldsT 5 x13 w105 fun u => u = t80) ∧
  clT PR 67 [t80, t85] w105 fun t86 w106 =>
  R t86 w106)
  (R (.bool false) (w.drew))
def Flaws_FnHeapSame (t0 t1 : Value) (w : World) (R : VW) : Prop :=
  lenT t0 fun t17 =>
  binT .gtr t17 (.int .i64 1048576) fun t18 =>
  condT t18
  (R (.bool true) w)
  (lenT t1 fun t21 =>
  binT .gtr t21 (.int .i64 1048576) fun t22 =>
  condT t22
  (R (.bool true) w)
  (clT PR 62 [t0] w fun t26 w1 =>
  extT t26 0 fun t27 =>
  extT t26 1 fun t28 =>
  allocT 42 #[(.slice none 0 0)] w1 fun t5 w2 =>
  allocT 57 #[(.slice none 0 0), (.int .i64 0), (.int .i64 0), (.slice none 0 0), (.int .i64 0)] w2 fun t6 w3 =>
  stsT 1 t5 t27 w3 fun w4 =>
  stsT 5 t6 t28 w4 fun w5 =>
  bldT #[(.int .i64 0), (.int .i64 0)] [] fun t29 =>
  fadT 1 t6 fun t33 =>
  ldT t33 (w5.drew) fun t34 =>
  (clT PR 64 [(.int .i64 0)] (w5.drew) fun t30 w6 =>
  (ldT t33 w6 fun u => u = t34) ∧
  (clT PR 64 [(.int .i64 5)] w6 fun t31 w7 =>
  (ldT t33 w7 fun u => u = t34) ∧
  (clT PR 69 [(.int .i64 0)] w7 fun t32 w8 =>
  (ldT t33 w8 fun u => u = t34) ∧
  opT PR (Builtin.max_ #[3, 3] 3 #[t34, (.int .i64 0)]) w8 fun t35 w9 =>
  clT PR 69 [t35] w9 fun t36 w10 =>
  bslT 78 5 2 #[(.int .i64 0), (.int .i64 0)] [(0, 2, t29), (2, 2, t30), (4, 2, t31), (6, 2, t32), (8, 2, t36)] w10 fun t37 w11 =>
  lenT t1 fun t40 =>
  binT .rem t40 (.int .i64 5) fun t41 =>
  ixaT 2 t37 t41 fun t42 =>
  ldsT 2 t42 w11 fun t43 =>
  allocT 78 #[(.int .i64 0), (.int .i64 0)] w11 fun t8 w12 =>
  stsT 2 t8 t43 w12 fun w13 =>
  lenT t1 fun t46 =>
  binT .quo t46 (.int .i64 5) fun t47 =>
  binT .rem t47 (.int .i64 5) fun t48 =>
  ixaT 2 t37 t48 fun t49 =>
  ldsT 2 t49 w13 fun t50 =>
  allocT 78 #[(.int .i64 0), (.int .i64 0)] w13 fun t9 w14 =>
  stsT 2 t9 t50 w14 fun w15 =>
  ldsT 1 t5 w15 fun t52 =>
  ldsT 5 t6 w15 fun t53 =>
  bldT #[(.int .i64 0), (.int .i64 0)] [(0, 1, (.int .i64 6))] fun t54 =>
  ldsT 2 t8 w15 fun t55 =>
  ldsT 2 t9 w15 fun t56 =>
  bslT 78 2 2 #[(.int .i64 0), (.int .i64 0)] [(0, 2, t55), (2, 2, t56)] w15 fun t57 w16 =>
  clT PR 63 [t52, t53, t54, t57] w16 fun t58 w17 =>
  extT t58 0 fun t59 =>
  extT t58 1 fun t60 =>
  extT t58 2 fun t61 =>
  allocT 42 #[(.slice none 0 0)] w17 fun t10 w18 =>
  allocT 57 #[(.slice none 0 0), (.int .i64 0), (.int .i64 0), (.slice none 0 0), (.int .i64 0)] w18 fun t11 w19 =>
  stsT 1 t10 t59 w19 fun w20 =>
  stsT 5 t11 t60 w20 fun w21 =>
  ldsT 1 t10 w21 fun t63 =>
  ldsT 5 t11 w21 fun t64 =>
  clT PR 65 [t63, t64] w21 fun t65 w22 =>
  extT t65 0 fun t66 =>
  extT t65 1 fun t67 =>
  allocT 57 #[(.slice none 0 0), (.int .i64 0), (.int .i64 0), (.slice none 0 0), (.int .i64 0)] w22 fun t13 w23 =>
  stsT 5 t13 t66 w23 fun w24 =>
  notT t61 fun t69 =>
  condT t69
  (ldsT 1 t10 w24 fun t71 =>
  ldsT 5 t11 w24 fun t72 =>
  clT PR 66 [t71, t72] w24 fun t73 w25 =>
  opT PR (do eqGuard .eql 4 (.tmp 70) (.tmp 73) t67 t73; binOp .eql 4 t67 t73) w25 fun t74 w26 =>
  R t74 w26)
  (ldsT 2 t8 w24 fun t75 =>
  ldsT 2 t9 w24 fun t76 =>
  opT PR (do eqGuard .eql 78 (.tmp 75) (.tmp 76) t75 t76; binOp .eql 78 t75 t76) w24 fun t77 w27 =>
  condT t77
  (Flaws_FnHeapSame.j1 t11 t13 t67 (.int .i64 1) w27 R)
  (Flaws_FnHeapSame.j1 t11 t13 t67 (.int .i64 0) w27 R))) ∧
  (opT PR (Builtin.max_ #[3, 3] 3 #[t34, (.int .i64 0)]) w7 fun t35 w32 =>
  clT PR 69 [(.int .i64 0)] w32 fun t32 w33 =>
  (ldT t33 w33 fun u => u = t34) ∧
  clT PR 69 [t35] w33 fun t36 w34 =>
  bslT 78 5 2 #[(.int .i64 0), (.int .i64 0)] [(0, 2, t29), (2, 2, t30), (4, 2, t31), (6, 2, t32), (8, 2, t36)] w34 fun t37 w35 =>
  lenT t1 fun t40 =>
  binT .rem t40 (.int .i64 5) fun t41 =>
  ixaT 2 t37 t41 fun t42 =>
  ldsT 2 t42 w35 fun t43 =>
  allocT 78 #[(.int .i64 0), (.int .i64 0)] w35 fun t8 w36 =>
  stsT 2 t8 t43 w36 fun w37 =>
  lenT t1 fun t46 =>
  binT .quo t46 (.int .i64 5) fun t47 =>
  binT .rem t47 (.int .i64 5) fun t48 =>
  ixaT 2 t37 t48 fun t49 =>
  ldsT 2 t49 w37 fun t50 =>
  allocT 78 #[(.int .i64 0), (.int .i64 0)] w37 fun t9 w38 =>
  stsT 2 t9 t50 w38 fun w39 =>
  ldsT 1 t5 w39 fun t52 =>
  ldsT 5 t6 w39 fun t53 =>
  bldT #[(.int .i64 0), (.int .i64 0)] [(0, 1, (.int .i64 6))] fun t54 =>
  ldsT 2 t8 w39 fun t55 =>
  ldsT 2 t9 w39 fun t56 =>
  bslT 78 2 2 #[(.int .i64 0), (.int .i64 0)] [(0, 2, t55), (2, 2, t56)] w39 fun t57 w40 =>
  clT PR 63 [t52, t53, t54, t57] w40 fun t58 w41 =>
  extT t58 0 fun t59 =>
  extT t58 1 fun t60 =>
  extT t58 2 fun t61 =>
  allocT 42 #[(.slice none 0 0)] w41 fun t10 w42 =>
  allocT 57 #[(.slice none 0 0), (.int .i64 0), (.int .i64 0), (.slice none 0 0), (.int .i64 0)] w42 fun t11 w43 =>
  stsT 1 t10 t59 w43 fun w44 =>
  stsT 5 t11 t60 w44 fun w45 =>
  ldsT 1 t10 w45 fun t63 =>
  ldsT 5 t11 w45 fun t64 =>
  clT PR 65 [t63, t64] w45 fun t65 w46 =>
  extT t65 0 fun t66 =>
  extT t65 1 fun t67 =>
  allocT 57 #[(.slice none 0 0), (.int .i64 0), (.int .i64 0), (.slice none 0 0), (.int .i64 0)] w46 fun t13 w47 =>
  stsT 5 t13 t66 w47 fun w48 =>
  notT t61 fun t69 =>
  condT t69
  (ldsT 1 t10 w48 fun t71 =>
  ldsT 5 t11 w48 fun t72 =>
  clT PR 66 [t71, t72] w48 fun t73 w49 =>
  opT PR (do eqGuard .eql 4 (.tmp 70) (.tmp 73) t67 t73; binOp .eql 4 t67 t73) w49 fun t74 w50 =>
  R t74 w50)
  (ldsT 2 t8 w48 fun t75 =>
  ldsT 2 t9 w48 fun t76 =>
  opT PR (do eqGuard .eql 78 (.tmp 75) (.tmp 76) t75 t76; binOp .eql 78 t75 t76) w48 fun t77 w51 =>
  condT t77
  (Flaws_FnHeapSame.j2 t11 t13 t67 (.int .i64 1) w51 R)
  (Flaws_FnHeapSame.j2 t11 t13 t67 (.int .i64 0) w51 R)))) ∧
  (opT PR (Builtin.max_ #[3, 3] 3 #[t34, (.int .i64 0)]) w6 fun t35 w56 =>
  clT PR 64 [(.int .i64 5)] w56 fun t31 w57 =>
  (ldT t33 w57 fun u => u = t34) ∧
  clT PR 69 [(.int .i64 0)] w57 fun t32 w58 =>
  (ldT t33 w58 fun u => u = t34) ∧
  clT PR 69 [t35] w58 fun t36 w59 =>
  bslT 78 5 2 #[(.int .i64 0), (.int .i64 0)] [(0, 2, t29), (2, 2, t30), (4, 2, t31), (6, 2, t32), (8, 2, t36)] w59 fun t37 w60 =>
  lenT t1 fun t40 =>
  binT .rem t40 (.int .i64 5) fun t41 =>
  ixaT 2 t37 t41 fun t42 =>
  ldsT 2 t42 w60 fun t43 =>
  allocT 78 #[(.int .i64 0), (.int .i64 0)] w60 fun t8 w61 =>
  stsT 2 t8 t43 w61 fun w62 =>
  lenT t1 fun t46 =>
  binT .quo t46 (.int .i64 5) fun t47 =>
  binT .rem t47 (.int .i64 5) fun t48 =>
  ixaT 2 t37 t48 fun t49 =>
  ldsT 2 t49 w62 fun t50 =>
  allocT 78 #[(.int .i64 0), (.int .i64 0)] w62 fun t9 w63 =>
  stsT 2 t9 t50 w63 fun w64 =>
  ldsT 1 t5 w64 fun t52 =>
  ldsT 5 t6 w64 fun t53 =>
  bldT #[(.int .i64 0), (.int .i64 0)] [(0, 1, (.int .i64 6))] fun t54 =>
  ldsT 2 t8 w64 fun t55 =>
  ldsT 2 t9 w64 fun t56 =>
  bslT 78 2 2 #[(.int .i64 0), (.int .i64 0)] [(0, 2, t55), (2, 2, t56)] w64 fun t57 w65 =>
  clT PR 63 [t52, t53, t54, t57] w65 fun t58 w66 =>
  extT t58 0 fun t59 =>
  extT t58 1 fun t60 =>
  extT t58 2 fun t61 =>
  allocT 42 #[(.slice none 0 0)] w66 fun t10 w67 =>
  allocT 57 #[(.slice none 0 0), (.int .i64 0), (.int .i64 0), (.slice none 0 0), (.int .i64 0)] w67 fun t11 w68 =>
  stsT 1 t10 t59 w68 fun w69 =>
  stsT 5 t11 t60 w69 fun w70 =>
  ldsT 1 t10 w70 fun t63 =>
  ldsT 5 t11 w70 fun t64 =>
  clT PR 65 [t63, t64] w70 fun t65 w71 =>
  extT t65 0 fun t66 =>
  extT t65 1 fun t67 =>
  allocT 57 #[(.slice none 0 0), (.int .i64 0), (.int .i64 0), (.slice none 0 0), (.int .i64 0)] w71 fun t13 w72 =>
  stsT 5 t13 t66 w72 fun w73 =>
  notT t61 fun t69 =>
  condT t69
  (ldsT 1 t10 w73 fun t71 =>
  ldsT 5 t11 w73 fun t72 =>
  clT PR 66 [t71, t72] w73 fun t73 w74 =>
  opT PR (do eqGuard .eql 4 (.tmp 70) (.tmp 73) t67 t73; binOp .eql 4 t67 t73) w74 fun t74 w75 =>
  R t74 w75)
  (ldsT 2 t8 w73 fun t75 =>
  ldsT 2 t9 w73 fun t76 =>
  opT PR (do eqGuard .eql 78 (.tmp 75) (.tmp 76) t75 t76; binOp .eql 78 t75 t76) w73 fun t77 w76 =>
  condT t77
  (Flaws_FnHeapSame.j3 t11 t13 t67 (.int .i64 1) w76 R)
  (Flaws_FnHeapSame.j3 t11 t13 t67 (.int .i64 0) w76 R)))) ∧
  (opT PR (Builtin.max_ #[3, 3] 3 #[t34, (.int .i64 0)]) (w5.drew) fun t35 w81 =>
  clT PR 64 [(.int .i64 0)] w81 fun t30 w82 =>
  (ldT t33 w82 fun u => u = t34) ∧
  clT PR 64 [(.int .i64 5)] w82 fun t31 w83 =>
  (ldT t33 w83 fun u => u = t34) ∧
  clT PR 69 [(.int .i64 0)] w83 fun t32 w84 =>
  (ldT t33 w84 fun u => u = t34) ∧
  clT PR 69 [t35] w84 fun t36 w85 =>
  bslT 78 5 2 #[(.int .i64 0), (.int .i64 0)] [(0, 2, t29), (2, 2, t30), (4, 2, t31), (6, 2, t32), (8, 2, t36)] w85 fun t37 w86 =>
  lenT t1 fun t40 =>
  binT .rem t40 (.int .i64 5) fun t41 =>
  ixaT 2 t37 t41 fun t42 =>
  ldsT 2 t42 w86 fun t43 =>
  allocT 78 #[(.int .i64 0), (.int .i64 0)] w86 fun t8 w87 =>
  stsT 2 t8 t43 w87 fun w88 =>
  lenT t1 fun t46 =>
  binT .quo t46 (.int .i64 5) fun t47 =>
  binT .rem t47 (.int .i64 5) fun t48 =>
  ixaT 2 t37 t48 fun t49 =>
  ldsT 2 t49 w88 fun t50 =>
  allocT 78 #[(.int .i64 0), (.int .i64 0)] w88 fun t9 w89 =>
  stsT 2 t9 t50 w89 fun w90 =>
  ldsT 1 t5 w90 fun t52 =>
  ldsT 5 t6 w90 fun t53 =>
  bldT #[(.int .i64 0), (.int .i64 0)] [(0, 1, (.int .i64 6))] fun t54 =>
  ldsT 2 t8 w90 fun t55 =>
  ldsT 2 t9 w90 fun t56 =>
  bslT 78 2 2 #[(.int .i64 0), (.int .i64 0)] [(0, 2, t55), (2, 2, t56)] w90 fun t57 w91 =>
  clT PR 63 [t52, t53, t54, t57] w91 fun t58 w92 =>
  extT t58 0 fun t59 =>
  extT t58 1 fun t60 =>
  extT t58 2 fun t61 =>
  allocT 42 #[(.slice none 0 0)] w92 fun t10 w93 =>
  allocT 57 #[(.slice none 0 0), (.int .i64 0), (.int .i64 0), (.slice none 0 0), (.int .i64 0)] w93 fun t11 w94 =>
  stsT 1 t10 t59 w94 fun w95 =>
  stsT 5 t11 t60 w95 fun w96 =>
  ldsT 1 t10 w96 fun t63 =>
  ldsT 5 t11 w96 fun t64 =>
  clT PR 65 [t63, t64] w96 fun t65 w97 =>
  extT t65 0 fun t66 =>
  extT t65 1 fun t67 =>
  allocT 57 #[(.slice none 0 0), (.int .i64 0), (.int .i64 0), (.slice none 0 0), (.int .i64 0)] w97 fun t13 w98 =>
  stsT 5 t13 t66 w98 fun w99 =>
  notT t61 fun t69 =>
  condT t69
  (ldsT 1 t10 w99 fun t71 =>
  ldsT 5 t11 w99 fun t72 =>
  clT PR 66 [t71, t72] w99 fun t73 w100 =>
  opT PR (do eqGuard .eql 4 (.tmp 70) (.tmp 73) t67 t73; binOp .eql 4 t67 t73) w100 fun t74 w101 =>
  R t74 w101)
  (ldsT 2 t8 w99 fun t75 =>
  ldsT 2 t9 w99 fun t76 =>
  opT PR (do eqGuard .eql 78 (.tmp 75) (.tmp 76) t75 t76; binOp .eql 78 t75 t76) w99 fun t77 w102 =>
  condT t77
  (Flaws_FnHeapSame.j4 t11 t13 t67 (.int .i64 1) w102 R)
  (Flaws_FnHeapSame.j4 t11 t13 t67 (.int .i64 0) w102 R)))))
def Flaws_FnHeapSame.H : Hints := {draw := fun i => match i with | 4 => { T := [0, 0, 2, 6, 0, 16, 48, 126, 255, 511] } | 14 => { T := [0, 1, 3, 3, 3, 19, 51, 123, 255, 511, 1023] } | _ => {}, join := fun i => match i with | 77 => some [11, 13, 14, 15] | _ => none}
theorem Flaws_FnHeapSame.eq (t0 t1 : Value) : trF PR CX Flaws_FnHeapSame.H Tryz.f19 [t0, t1] = Flaws_FnHeapSame t0 t1 := by kernel_rfl
theorem Flaws_FnHeapSame.cl {t0 t1 : Value} {w : World} {R : VW} (h : Flaws_FnHeapSame t0 t1 w R) : clT PR 19 [t0, t1] w R := cl_of_tr (H := Flaws_FnHeapSame.H) ctxOk Tryz.func19 rfl (by rw [Flaws_FnHeapSame.eq]; exact h)
end Go.PT
