/- The reflected texts of functions of the program, and that a call keeps what its text says. -/
import Derived.Test.YtegddhbcglghdaaGreatCtx
set_option linter.unusedVariables false
set_option maxRecDepth 100000
namespace Go.PT
open Go.Proofs
/-! function 20: laws_FnHeapSay -/
def Flaws_FnHeapSay.j1 (x8 x12 x13 x14 : Value) (w : World) (R : VW) : Prop := ∀ _ : Env,
  fadT 3 x14 fun t87 =>
  ldT t87 w fun t88 =>
  ldsT 2 x8 w fun t89 =>
  bslT 78 1 2 #[(.int .i64 0), (.int .i64 0)] [(0, 2, t89)] w fun t90 w62 =>
  opT PR (Builtin.append_ #[35, 35] 35 #[t88, t90]) w62 fun t91 w63 =>
  fadT 3 x14 fun t92 =>
  stT t92 t91 w63 fun w64 =>
  condT x13
  (ldsT 5 x12 w64 fun t95 =>
  ldsT 5 x14 w64 fun t96 =>
  clT PR 67 [t95, t96] w64 fun t97 w65 =>
  R t97 w65)
  (R (.bool false) w64)
def Flaws_FnHeapSay (t0 t1 : Value) (w : World) (R : VW) : Prop :=
  lenT t0 fun t16 =>
  binT .gtr t16 (.int .i64 1048576) fun t17 =>
  condT t17
  (R (.bool true) w)
  (lenT t1 fun t20 =>
  binT .gtr t20 (.int .i64 1048576) fun t21 =>
  condT t21
  (R (.bool true) w)
  (clT PR 62 [t0] w fun t25 w1 =>
  extT t25 0 fun t26 =>
  extT t25 1 fun t27 =>
  allocT 42 #[(.slice none 0 0)] w1 fun t5 w2 =>
  allocT 57 #[(.slice none 0 0), (.int .i64 0), (.int .i64 0), (.slice none 0 0), (.int .i64 0)] w2 fun t6 w3 =>
  stsT 1 t5 t26 w3 fun w4 =>
  stsT 5 t6 t27 w4 fun w5 =>
  lenT t1 fun t29 =>
  binT .quo t29 (.int .i64 3) fun t30 =>
  fadT 0 t6 fun t31 =>
  ldT t31 w5 fun t32 =>
  lenT t32 fun t33 =>
  opT PR (Builtin.max_ #[3, 3] 3 #[t33, (.int .i64 1)]) w5 fun t34 w6 =>
  binT .rem t30 t34 fun t35 =>
  bldT #[(.int .i64 0), (.int .i64 0)] [] fun t36 =>
  lenT t1 fun t38 =>
  binT .rem t38 (.int .i64 90) fun t39 =>
  clT PR 64 [t39] w6 fun t40 w7 =>
  clT PR 69 [t35] w7 fun t42 w8 =>
  bslT 78 3 2 #[(.int .i64 0), (.int .i64 0)] [(0, 2, t36), (2, 2, t40), (4, 2, t42)] w8 fun t43 w9 =>
  lenT t1 fun t45 =>
  binT .rem t45 (.int .i64 3) fun t46 =>
  ixaT 2 t43 t46 fun t47 =>
  ldsT 2 t47 w9 fun t48 =>
  allocT 78 #[(.int .i64 0), (.int .i64 0)] w9 fun t8 w10 =>
  stsT 2 t8 t48 w10 fun w11 =>
  ldsT 1 t5 (w11.drew) fun t50 =>
  ldsT 5 t6 (w11.drew) fun t51 =>
  bldT #[(.int .i64 0), (.int .i64 0)] [(0, 1, (.int .i64 16))] fun t52 =>
  ldsT 2 t8 (w11.drew) fun t54 =>
  arT [(42, #[(.slice none 0 0)]), (57, #[(.slice none 0 0), (.int .i64 0), (.int .i64 0), (.slice none 0 0), (.int .i64 0)])] (w11.drew) [none, none] fun w12 s13 =>
  clT PR 64 [(.int .i64 7)] w12 fun t53 w14 =>
  (ldsT 2 t8 w14 fun u => u = t54) ∧
  (ldsT 5 t6 w14 fun u => u = t51) ∧
  (ldsT 1 t5 w14 fun u => u = t50) ∧
  arT [(42, #[(.slice none 0 0)]), (57, #[(.slice none 0 0), (.int .i64 0), (.int .i64 0), (.slice none 0 0), (.int .i64 0)])] w14 s13 fun w15 s16 =>
  bslT 78 2 2 #[(.int .i64 0), (.int .i64 0)] [(0, 2, t53), (2, 2, t54)] w15 fun t55 w17 =>
  (ldsT 5 t6 w17 fun u => u = t51) ∧
  (ldsT 1 t5 w17 fun u => u = t50) ∧
  arT [(42, #[(.slice none 0 0)]), (57, #[(.slice none 0 0), (.int .i64 0), (.int .i64 0), (.slice none 0 0), (.int .i64 0)])] w17 s16 fun w18 s19 =>
  clT PR 63 [t50, t51, t52, t55] w18 fun t56 w20 =>
  extT t56 0 fun t57 =>
  extT t56 1 fun t58 =>
  extT t56 2 fun t59 =>
  arT [(42, #[(.slice none 0 0)]), (57, #[(.slice none 0 0), (.int .i64 0), (.int .i64 0), (.slice none 0 0), (.int .i64 0)])] w20 s19 fun w21 s22 =>
  ndT s22 0 fun b23 =>
  ndT s22 1 fun b24 =>
  stsT 1 (.pointer (some ⟨b23, 0, none⟩)) t57 w21 fun w25 =>
  arT [(42, #[(.slice none 0 0)]), (57, #[(.slice none 0 0), (.int .i64 0), (.int .i64 0), (.slice none 0 0), (.int .i64 0)])] w25 s22 fun w26 s27 =>
  ndT s27 0 fun b28 =>
  ndT s27 1 fun b29 =>
  stsT 5 (.pointer (some ⟨b29, 0, none⟩)) t58 w26 fun w30 =>
  arT [(42, #[(.slice none 0 0)]), (57, #[(.slice none 0 0), (.int .i64 0), (.int .i64 0), (.slice none 0 0), (.int .i64 0)])] w30 s27 fun w31 s32 =>
  ndT s32 0 fun b33 =>
  ndT s32 1 fun b34 =>
  arT [(42, #[(.slice none 0 0)]), (57, #[(.slice none 0 0), (.int .i64 0), (.int .i64 0), (.slice none 0 0), (.int .i64 0)])] w31 s32 fun w35 s36 =>
  ndT s36 0 fun b37 =>
  ndT s36 1 fun b38 =>
  ldsT 1 (.pointer (some ⟨b37, 0, none⟩)) w35 fun t61 =>
  ldsT 5 (.pointer (some ⟨b38, 0, none⟩)) w35 fun t62 =>
  clT PR 65 [t61, t62] w35 fun t63 w39 =>
  extT t63 0 fun t64 =>
  extT t63 1 fun t65 =>
  allocT 57 #[(.slice none 0 0), (.int .i64 0), (.int .i64 0), (.slice none 0 0), (.int .i64 0)] w39 fun t12 w40 =>
  stsT 5 t12 t64 w40 fun w41 =>
  notT t59 fun t67 =>
  condT t67
  (ldsT 1 (.pointer (some ⟨b37, 0, none⟩)) w41 fun t69 =>
  ldsT 5 (.pointer (some ⟨b38, 0, none⟩)) w41 fun t70 =>
  clT PR 66 [t69, t70] w41 fun t71 w42 =>
  opT PR (do eqGuard .eql 4 (.tmp 68) (.tmp 71) t65 t71; binOp .eql 4 t65 t71) w42 fun t72 w43 =>
  R t72 w43)
  (ldsT 5 (.pointer (some ⟨b38, 0, none⟩)) (w41.drew) fun t73 =>
  arT [(57, #[(.slice none 0 0), (.int .i64 0), (.int .i64 0), (.slice none 0 0), (.int .i64 0)])] (w41.drew) [none] fun w44 s45 =>
  clT PR 64 [(.int .i64 7)] w44 fun t74 w46 =>
  (ldsT 5 (.pointer (some ⟨b38, 0, none⟩)) w46 fun u => u = t73) ∧
  arT [(57, #[(.slice none 0 0), (.int .i64 0), (.int .i64 0), (.slice none 0 0), (.int .i64 0)])] w46 s45 fun w47 s48 =>
  bslT 78 1 2 #[(.int .i64 0), (.int .i64 0)] [(0, 2, t74)] w47 fun t75 w49 =>
  (ldsT 5 (.pointer (some ⟨b38, 0, none⟩)) w49 fun u => u = t73) ∧
  arT [(57, #[(.slice none 0 0), (.int .i64 0), (.int .i64 0), (.slice none 0 0), (.int .i64 0)])] w49 s48 fun w50 s51 =>
  clT PR 68 [t73, t75] w50 fun t76 w52 =>
  arT [(57, #[(.slice none 0 0), (.int .i64 0), (.int .i64 0), (.slice none 0 0), (.int .i64 0)])] w52 s51 fun w53 s54 =>
  ndT s54 0 fun b55 =>
  stsT 5 (.pointer (some ⟨b55, 0, none⟩)) t76 w53 fun w56 =>
  arT [(57, #[(.slice none 0 0), (.int .i64 0), (.int .i64 0), (.slice none 0 0), (.int .i64 0)])] w56 s54 fun w57 s58 =>
  ndT s58 0 fun b59 =>
  fadT 0 t8 fun t77 =>
  ldT t77 w57 fun t78 =>
  binT .eql t78 (.int .i64 2) fun t79 =>
  condT t79
  (fadT 0 (.pointer (some ⟨b38, 0, none⟩)) fun t80 =>
  ldT t80 w57 fun t81 =>
  ixaT 6 t81 t35 fun t83 =>
  fadT 0 t83 fun t84 =>
  ldT t84 w57 fun t85 =>
  clT PR 69 [t85] w57 fun t86 w60 =>
  stsT 2 t8 t86 w60 fun w61 =>
  Flaws_FnHeapSay.j1 t8 t12 t65 (.pointer (some ⟨b59, 0, none⟩)) w61 R)
  (Flaws_FnHeapSay.j1 t8 t12 t65 (.pointer (some ⟨b59, 0, none⟩)) w57 R))))
def Flaws_FnHeapSay.H : Hints := {draw := fun i => match i with | 6 => { T := [0, 0, 0, 0, 0, 24, 63, 127, 255, 255, 255, 0, 0, 6655, 15359, 32767], F := [11, 12] } | 10 => { T := [0, 0, 2, 7, 0, 31], F := [4] } | _ => {}, join := fun i => match i with | 79 => some [8, 12, 13, 14] | _ => none}
theorem Flaws_FnHeapSay.eq (t0 t1 : Value) : trF PR CX Flaws_FnHeapSay.H Tryz.f20 [t0, t1] = Flaws_FnHeapSay t0 t1 := by kernel_rfl
theorem Flaws_FnHeapSay.cl {t0 t1 : Value} {w : World} {R : VW} (h : Flaws_FnHeapSay t0 t1 w R) : clT PR 20 [t0, t1] w R := cl_of_tr (H := Flaws_FnHeapSay.H) ctxOk Tryz.func20 rfl (by rw [Flaws_FnHeapSay.eq]; exact h)
end Go.PT
