/- The reflected texts of functions of the program, and that a call keeps what its text says. -/
import Derived.Test.YtegddhbcglghdaaGreatCtx
set_option linter.unusedVariables false
set_option maxRecDepth 100000
namespace Go.PT
open Go.Proofs
/-! function 27: laws_FnHeapDead -/
def Flaws_FnHeapDead.l1 (x2 x4 x8 x10 : Value) (w : World) (Kn Kb Kr : LW) : Prop := ∀ _ : Env,
  fadT 0 x4 fun t56 =>
  ldT t56 w fun t57 =>
  lenT t57 fun t58 =>
  binT .lss x10 t58 fun t59 =>
  condT t59
  (fadT 0 x4 fun t62 =>
  ldT t62 (w.drew) fun t63 =>
  ixaT 6 t63 x10 fun t65 =>
  fadT 5 t65 fun t66 =>
  ldT t66 (w.drew) fun t67 =>
  condT t67
  (fadT 0 x8 fun t69 =>
  ldT t69 (w.drew) fun t70 =>
  ixaT 6 t70 x10 fun t72 =>
  fadT 5 t72 fun t73 =>
  ldT t73 (w.drew) fun t74 =>
  notT t74 fun t75 =>
  condT t75
  (Kr [(.bool false), x4, x8, x10] (w.drew))
  (fadT 0 x8 fun t77 =>
  ldT t77 (w.drew) fun t78 =>
  ixaT 6 t78 x10 fun t80 =>
  fadT 1 t80 fun t81 =>
  ldT t81 (w.drew) fun t82 =>
  fadT 0 x4 fun t83 =>
  ldT t83 (w.drew) fun t84 =>
  ixaT 6 t84 x10 fun t86 =>
  fadT 1 t86 fun t87 =>
  ldT t87 (w.drew) fun t88 =>
  binT .neq t82 t88 fun t89 =>
  condT t89
  (Kr [(.bool false), x4, x8, x10] (w.drew))
  (fadT 0 x4 fun t93 =>
  ldT t93 (w.drew) fun t94 =>
  ixaT 6 t94 x10 fun t96 =>
  fadT 0 t96 fun t97 =>
  ldT t97 (w.drew) fun t98 =>
  fadT 0 x8 fun t99 =>
  ldT t99 (w.drew) fun t100 =>
  ixaT 6 t100 x10 fun t102 =>
  fadT 0 t102 fun t103 =>
  ldT t103 (w.drew) fun t104 =>
  binT .neq t98 t104 fun t105 =>
  condT t105
  (Kr [(.bool false), x4, x8, x10] (w.drew))
  (binT .add x10 (.int .i64 1) fun t61 =>
  Kn [x2, x4, x8, t61] (w.drew)))))
  (fadT 0 x4 fun t93 =>
  ldT t93 (w.drew) fun t94 =>
  ixaT 6 t94 x10 fun t96 =>
  fadT 0 t96 fun t97 =>
  ldT t97 (w.drew) fun t98 =>
  fadT 0 x8 fun t99 =>
  ldT t99 (w.drew) fun t100 =>
  ixaT 6 t100 x10 fun t102 =>
  fadT 0 t102 fun t103 =>
  ldT t103 (w.drew) fun t104 =>
  binT .neq t98 t104 fun t105 =>
  condT t105
  (Kr [(.bool false), x4, x8, x10] (w.drew))
  (binT .add x10 (.int .i64 1) fun t61 =>
  Kn [x2, x4, x8, t61] (w.drew))))
  (Kb [x2, x4, x8, x10] w)
def Flaws_FnHeapDead.k2 (x2 x4 x8 x10 : Value) (w : World) (R : VW) : Prop := ∀ _ : Env,
  fadT 4 x8 fun t107 =>
  ldT t107 w fun t108 =>
  binT .neq t108 (.int .i64 1) fun t109 =>
  condT t109
  (R (.bool true) w)
  (ldsT 5 x8 w fun t111 =>
  clT PR 81 [t111] w fun t112 w20 =>
  binT .eql t112 (.int .i64 0) fun t113 =>
  condT t113
  (ldsT 5 x8 w20 fun t115 =>
  clT PR 60 [t115] w20 fun t116 w21 =>
  lenT t116 fun t117 =>
  binT .eql t117 (.int .i64 0) fun t118 =>
  R t118 w21)
  (R (.bool false) w20))
def Flaws_FnHeapDead.r3 (x2 x4 x8 x10 : Value) (w : World) (R : VW) : Prop := ∀ _ : Env,
  R x2 w
def Flaws_FnHeapDead (t0 : Value) (w : World) (R : VW) : Prop :=
  lenT t0 fun t12 =>
  binT .gtr t12 (.int .i64 1048576) fun t13 =>
  condT t13
  (R (.bool true) w)
  (clT PR 77 [t0] w fun t16 w1 =>
  extT t16 0 fun t17 =>
  extT t16 1 fun t18 =>
  extT t16 2 fun t19 =>
  allocT 42 #[(.slice none 0 0)] w1 fun t3 w2 =>
  allocT 57 #[(.slice none 0 0), (.int .i64 0), (.int .i64 0), (.slice none 0 0), (.int .i64 0)] w2 fun t4 w3 =>
  stsT 1 t3 t17 w3 fun w4 =>
  stsT 5 t4 t18 w4 fun w5 =>
  ldsT 1 t3 w5 fun t21 =>
  ldsT 5 t4 w5 fun t22 =>
  clT PR 78 [t21, t22, t19] w5 fun t24 w6 =>
  extT t24 0 fun t25 =>
  extT t24 1 fun t26 =>
  allocT 57 #[(.slice none 0 0), (.int .i64 0), (.int .i64 0), (.slice none 0 0), (.int .i64 0)] w6 fun t6 w7 =>
  stsT 5 t6 t25 w7 fun w8 =>
  ldsT 1 t3 w8 fun t28 =>
  ldsT 5 t4 w8 fun t29 =>
  clT PR 79 [t28, t29, t19] w8 fun t31 w9 =>
  extT t31 0 fun t32 =>
  extT t31 1 fun t33 =>
  allocT 57 #[(.slice none 0 0), (.int .i64 0), (.int .i64 0), (.slice none 0 0), (.int .i64 0)] w9 fun t8 w10 =>
  stsT 5 t8 t32 w10 fun w11 =>
  opT PR (do eqGuard .neq 4 (.tmp 34) (.tmp 35) t33 t26; binOp .neq 4 t33 t26) w11 fun t36 w12 =>
  condT t36
  (opT PR (do eqGuard .eql 4 (.tmp 47) (.tmp 48) t33 t26; binOp .eql 4 t33 t26) w12 fun t49 w13 =>
  condT t49
  (ldsT 5 t8 w13 fun t51 =>
  ldsT 5 t6 w13 fun t52 =>
  clT PR 67 [t51, t52] w13 fun t53 w14 =>
  R t53 w14)
  (R (.bool false) w13))
  (ldsT 5 t8 w12 fun t38 =>
  ldsT 5 t6 w12 fun t39 =>
  clT PR 67 [t38, t39] w12 fun t40 w15 =>
  notT t40 fun t41 =>
  condT t41
  (opT PR (do eqGuard .eql 4 (.tmp 47) (.tmp 48) t33 t26; binOp .eql 4 t33 t26) w15 fun t49 w16 =>
  condT t49
  (ldsT 5 t8 w16 fun t51 =>
  ldsT 5 t6 w16 fun t52 =>
  clT PR 67 [t51, t52] w16 fun t53 w17 =>
  R t53 w17)
  (R (.bool false) w16))
  (notT t33 fun t45 =>
  condT t45
  (opT PR (do eqGuard .eql 4 (.tmp 47) (.tmp 48) t33 t26; binOp .eql 4 t33 t26) w15 fun t49 w18 =>
  condT t49
  (ldsT 5 t8 w18 fun t51 =>
  ldsT 5 t6 w18 fun t52 =>
  clT PR 67 [t51, t52] w18 fun t53 w19 =>
  R t53 w19)
  (R (.bool false) w18))
  (loopT (fun s w Kn Kb Kr => Flaws_FnHeapDead.l1 (s.headD undef) (s.tail.headD undef) (s.tail.tail.headD undef) (s.tail.tail.tail.headD undef) w Kn Kb Kr) [(.bool false), t4, t8, (.int .i64 0)] w15
  (fun s w => Flaws_FnHeapDead.k2 (s.headD undef) (s.tail.headD undef) (s.tail.tail.headD undef) (s.tail.tail.tail.headD undef) w R)
  (fun s w => Flaws_FnHeapDead.r3 (s.headD undef) (s.tail.headD undef) (s.tail.tail.headD undef) (s.tail.tail.tail.headD undef) w R)))))
def Flaws_FnHeapDead.H : Hints := {draw := fun i => match i with | 11 => { T := [0, 1, 0, 7, 15, 31, 63, 127, 255, 127, 1023, 2047, 4095, 8191, 16383, 32767, 65535, 32767, 262143, 524287, 1048575, 32767, 2129919, 32767, 14712831, 31490047, 65044479, 134217727, 268435455, 536870911, 1073741823, 2147483647, 4294967295, 2147483647, 17179869183, 34359738367, 68719476735, 2147483647, 139586437119, 2147483647, 964220157951, 2063731785727, 4262755041279, 8796093022207, 17592186044415] } | _ => {}, loop := fun i => match i with | 9 => some (0, [2, 4, 8, 10]) | _ => none}
theorem Flaws_FnHeapDead.eq (t0 : Value) : trF PR CX Flaws_FnHeapDead.H Tryz.f27 [t0] = Flaws_FnHeapDead t0 := by kernel_rfl
theorem Flaws_FnHeapDead.cl {t0 : Value} {w : World} {R : VW} (h : Flaws_FnHeapDead t0 w R) : clT PR 27 [t0] w R := cl_of_tr (H := Flaws_FnHeapDead.H) ctxOk Tryz.func27 rfl (by rw [Flaws_FnHeapDead.eq]; exact h)
end Go.PT
