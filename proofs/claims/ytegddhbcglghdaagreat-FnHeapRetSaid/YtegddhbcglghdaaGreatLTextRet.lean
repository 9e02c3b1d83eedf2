/- The reflected texts of functions of the program, and that a call keeps what its text says. -/
import Derived.Test.YtegddhbcglghdaaGreatCtx
set_option linter.unusedVariables false
set_option maxRecDepth 100000
namespace Go.PT
open Go.Proofs
/-! function 12: laws_FnHeapRet -/
def Flaws_FnHeapRet.j1 (x11 x12 x13 : Value) (w : World) (R : VW) : Prop := ∀ _ : Env,
  condT x12
  (ldsT 5 x11 w fun t111 =>
  ldsT 5 x13 w fun t112 =>
  clT PR 67 [t111, t112] w fun t113 w52 =>
  R t113 w52)
  (R (.bool false) w)
def Flaws_FnHeapRet (t0 t1 : Value) (w : World) (R : VW) : Prop :=
  lenT t0 fun t16 =>
  binT .gtr t16 (.int .i64 1048576) fun t17 =>
  condT t17
  (R (.bool true) w)
  (lenT t1 fun t20 =>
  binT .gtr t20 (.int .i64 1048576) fun t21 =>
  condT t21
  (R (.bool true) w)
  (clT PR 62 [t0] w fun t25 w1 =>
  extT t25 0 fun t26 =>
  extT t25 1 fun t27 =>
  allocT 42 #[(.slice none 0 0)] w1 fun t5 w2 =>
  allocT 57 #[(.slice none 0 0), (.int .i64 0), (.int .i64 0), (.slice none 0 0), (.int .i64 0)] w2 fun t6 w3 =>
  stsT 1 t5 t26 w3 fun w4 =>
  stsT 5 t6 t27 w4 fun w5 =>
  bldT #[(.int .i64 0), (.int .i64 0)] [] fun t28 =>
  lenT t1 fun t30 =>
  binT .rem t30 (.int .i64 90) fun t31 =>
  clT PR 64 [t31] w5 fun t32 w6 =>
  bslT 78 2 2 #[(.int .i64 0), (.int .i64 0)] [(0, 2, t28), (2, 2, t32)] w6 fun t33 w7 =>
  lenT t1 fun t35 =>
  binT .rem t35 (.int .i64 2) fun t36 =>
  ixaT 2 t33 t36 fun t37 =>
  ldsT 2 t37 w7 fun t38 =>
  allocT 78 #[(.int .i64 0), (.int .i64 0)] w7 fun t7 w8 =>
  stsT 2 t7 t38 w8 fun w9 =>
  ldsT 1 t5 (w9.drew) fun t40 =>
  ldsT 5 t6 (w9.drew) fun t41 =>
  bldT #[(.int .i64 0), (.int .i64 0)] [(0, 1, (.int .i64 10))] fun t42 =>
  ldsT 2 t7 (w9.drew) fun t44 =>
  arT [(42, #[(.slice none 0 0)]), (57, #[(.slice none 0 0), (.int .i64 0), (.int .i64 0), (.slice none 0 0), (.int .i64 0)])] (w9.drew) [none, none] fun w10 s11 =>
  clT PR 64 [(.int .i64 7)] w10 fun t43 w12 =>
  (ldsT 2 t7 w12 fun u => u = t44) ∧
  (ldsT 5 t6 w12 fun u => u = t41) ∧
  (ldsT 1 t5 w12 fun u => u = t40) ∧
  arT [(42, #[(.slice none 0 0)]), (57, #[(.slice none 0 0), (.int .i64 0), (.int .i64 0), (.slice none 0 0), (.int .i64 0)])] w12 s11 fun w13 s14 =>
  bslT 78 2 2 #[(.int .i64 0), (.int .i64 0)] [(0, 2, t43), (2, 2, t44)] w13 fun t45 w15 =>
  (ldsT 5 t6 w15 fun u => u = t41) ∧
  (ldsT 1 t5 w15 fun u => u = t40) ∧
  arT [(42, #[(.slice none 0 0)]), (57, #[(.slice none 0 0), (.int .i64 0), (.int .i64 0), (.slice none 0 0), (.int .i64 0)])] w15 s14 fun w16 s17 =>
  clT PR 63 [t40, t41, t42, t45] w16 fun t46 w18 =>
  extT t46 0 fun t47 =>
  extT t46 1 fun t48 =>
  extT t46 2 fun t49 =>
  arT [(42, #[(.slice none 0 0)]), (57, #[(.slice none 0 0), (.int .i64 0), (.int .i64 0), (.slice none 0 0), (.int .i64 0)])] w18 s17 fun w19 s20 =>
  ndT s20 0 fun b21 =>
  ndT s20 1 fun b22 =>
  stsT 1 (.pointer (some ⟨b21, 0, none⟩)) t47 w19 fun w23 =>
  arT [(42, #[(.slice none 0 0)]), (57, #[(.slice none 0 0), (.int .i64 0), (.int .i64 0), (.slice none 0 0), (.int .i64 0)])] w23 s20 fun w24 s25 =>
  ndT s25 0 fun b26 =>
  ndT s25 1 fun b27 =>
  stsT 5 (.pointer (some ⟨b27, 0, none⟩)) t48 w24 fun w28 =>
  arT [(42, #[(.slice none 0 0)]), (57, #[(.slice none 0 0), (.int .i64 0), (.int .i64 0), (.slice none 0 0), (.int .i64 0)])] w28 s25 fun w29 s30 =>
  ndT s30 0 fun b31 =>
  ndT s30 1 fun b32 =>
  arT [(42, #[(.slice none 0 0)]), (57, #[(.slice none 0 0), (.int .i64 0), (.int .i64 0), (.slice none 0 0), (.int .i64 0)])] w29 s30 fun w33 s34 =>
  ndT s34 0 fun b35 =>
  ndT s34 1 fun b36 =>
  ldsT 1 (.pointer (some ⟨b35, 0, none⟩)) w33 fun t51 =>
  ldsT 5 (.pointer (some ⟨b36, 0, none⟩)) w33 fun t52 =>
  clT PR 65 [t51, t52] w33 fun t53 w37 =>
  extT t53 0 fun t54 =>
  extT t53 1 fun t55 =>
  allocT 57 #[(.slice none 0 0), (.int .i64 0), (.int .i64 0), (.slice none 0 0), (.int .i64 0)] w37 fun t11 w38 =>
  stsT 5 t11 t54 w38 fun w39 =>
  notT t49 fun t57 =>
  condT t57
  (ldsT 1 (.pointer (some ⟨b35, 0, none⟩)) w39 fun t59 =>
  ldsT 5 (.pointer (some ⟨b36, 0, none⟩)) w39 fun t60 =>
  clT PR 66 [t59, t60] w39 fun t61 w40 =>
  opT PR (do eqGuard .eql 4 (.tmp 58) (.tmp 61) t55 t61; binOp .eql 4 t55 t61) w40 fun t62 w41 =>
  R t62 w41)
  (ldsT 5 (.pointer (some ⟨b36, 0, none⟩)) w39 fun t63 =>
  clT PR 68 [t63, (.slice none 0 0)] w39 fun t64 w42 =>
  allocT 57 #[(.slice none 0 0), (.int .i64 0), (.int .i64 0), (.slice none 0 0), (.int .i64 0)] w42 fun t13 w43 =>
  stsT 5 t13 t64 w43 fun w44 =>
  fadT 0 t13 fun t65 =>
  ldT t65 w44 fun t66 =>
  fadT 1 t13 fun t67 =>
  ldT t67 w44 fun t68 =>
  ixaT 6 t66 t68 fun t69 =>
  fadT 4 t69 fun t70 =>
  ldT t70 w44 fun t71 =>
  fadT 0 t13 fun t72 =>
  ldT t72 w44 fun t73 =>
  fadT 1 t13 fun t74 =>
  ldT t74 w44 fun t75 =>
  ixaT 6 t73 t75 fun t76 =>
  fadT 5 t76 fun t77 =>
  stT t77 (.bool true) w44 fun w45 =>
  fadT 0 t13 fun t78 =>
  ldT t78 w45 fun t79 =>
  fadT 1 t13 fun t80 =>
  ldT t80 w45 fun t81 =>
  ixaT 6 t79 t81 fun t82 =>
  fadT 4 t82 fun t83 =>
  stT t83 (.int .i64 (-1)) w45 fun w46 =>
  fadT 1 t13 fun t85 =>
  stT t85 t71 w46 fun w47 =>
  binT .lss t71 (.int .i64 0) fun t87 =>
  condT t87
  (fadT 3 t13 fun t88 =>
  ldT t88 w47 fun t89 =>
  ldsT 2 t7 w47 fun t90 =>
  bslT 78 1 2 #[(.int .i64 0), (.int .i64 0)] [(0, 2, t90)] w47 fun t91 w48 =>
  opT PR (Builtin.append_ #[35, 35] 35 #[t89, t91]) w48 fun t92 w49 =>
  fadT 3 t13 fun t93 =>
  stT t93 t92 w49 fun w50 =>
  fadT 4 t13 fun t94 =>
  stT t94 (.int .i64 1) w50 fun w51 =>
  Flaws_FnHeapRet.j1 t11 t55 t13 w51 R)
  (fadT 0 t13 fun t95 =>
  ldT t95 (w47.drew) fun t96 =>
  fadT 0 t13 fun t98 =>
  ldT t98 (w47.drew) fun t99 =>
  ixaT 6 t99 t71 fun t101 =>
  fadT 3 t101 fun t102 =>
  ldT t102 (w47.drew) fun t103 =>
  ldsT 2 t7 (w47.drew) fun t104 =>
  bslT 78 1 2 #[(.int .i64 0), (.int .i64 0)] [(0, 2, t104)] (w47.drew) fun t105 w53 =>
  (ldT t102 w53 fun u => u = t103) ∧
  (ldT t98 w53 fun u => u = t99) ∧
  (ldT t95 w53 fun u => u = t96) ∧
  opT PR (Builtin.append_ #[35, 35] 35 #[t103, t105]) w53 fun t106 w54 =>
  (ldT t95 w54 fun u => u = t96) ∧
  ixaT 6 t96 t71 fun t107 =>
  fadT 3 t107 fun t108 =>
  stT t108 t106 w54 fun w55 =>
  Flaws_FnHeapRet.j1 t11 t55 t13 w55 R))))
def Flaws_FnHeapRet.H : Hints := {draw := fun i => match i with | 5 => { T := [0, 0, 0, 0, 0, 24, 63, 127, 255, 255, 255, 0, 0, 6655, 15359, 32767], F := [11, 12] } | 17 => { T := [0, 1, 0, 0, 8, 0, 56, 120, 248, 0, 512, 2040, 4095, 8191, 16383] } | _ => {}, join := fun i => match i with | 87 => some [11, 12, 13] | _ => none}
theorem Flaws_FnHeapRet.eq (t0 t1 : Value) : trF PR CX Flaws_FnHeapRet.H Tryz.f12 [t0, t1] = Flaws_FnHeapRet t0 t1 := by kernel_rfl
theorem Flaws_FnHeapRet.cl {t0 t1 : Value} {w : World} {R : VW} (h : Flaws_FnHeapRet t0 t1 w R) : clT PR 12 [t0, t1] w R := cl_of_tr (H := Flaws_FnHeapRet.H) ctxOk Tryz.func12 rfl (by rw [Flaws_FnHeapRet.eq]; exact h)
end Go.PT
