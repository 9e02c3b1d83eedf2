/- The reflected texts of functions of the program, and that a call keeps what its text says. -/
import Derived.Test.YtegddhbcglghdaaGreatCtx
set_option linter.unusedVariables false
set_option maxRecDepth 100000
namespace Go.PT
open Go.Proofs
/-! function 58: laws_lmCalls -/
def Flaws_lmCalls.l1 (x0 x1 x4 x5 : Value) (w : World) (Kn Kb Kr : LW) : Prop := ∀ _ : Env,
  lenT x0 fun t13 =>
  binT .lss x5 t13 fun t14 =>
  condT t14
  (ixaT 6 x0 x5 fun t19 =>
  ldsT 6 t19 (w.drew) fun t20 =>
  ixaT 6 x1 x5 fun t23 =>
  ldsT 6 t23 (w.drew) fun t24 =>
  clT PR 134 [t20, t24] (w.drew) fun t25 w1 =>
  notT t25 fun t26 =>
  condT t26
  (Kr [x0, x1, (.bool false), x5] w1)
  (binT .add x5 (.int .i64 1) fun t16 =>
  Kn [x0, x1, x4, t16] w1))
  (Kb [x0, x1, x4, x5] w)
def Flaws_lmCalls.k2 (x0 x1 x4 x5 : Value) (w : World) (R : VW) : Prop := ∀ _ : Env,
  R (.bool true) w
def Flaws_lmCalls.r3 (x0 x1 x4 x5 : Value) (w : World) (R : VW) : Prop := ∀ _ : Env,
  R x4 w
def Flaws_lmCalls (t0 t1 : Value) (w : World) (R : VW) : Prop :=
  lenT t0 fun t7 =>
  lenT t1 fun t9 =>
  binT .neq t7 t9 fun t10 =>
  condT t10
  (R (.bool false) w)
  (loopT (fun s w Kn Kb Kr => Flaws_lmCalls.l1 (s.headD undef) (s.tail.headD undef) (s.tail.tail.headD undef) (s.tail.tail.tail.headD undef) w Kn Kb Kr) [t0, t1, (.bool false), (.int .i64 0)] w
  (fun s w => Flaws_lmCalls.k2 (s.headD undef) (s.tail.headD undef) (s.tail.tail.headD undef) (s.tail.tail.tail.headD undef) w R)
  (fun s w => Flaws_lmCalls.r3 (s.headD undef) (s.tail.headD undef) (s.tail.tail.headD undef) (s.tail.tail.tail.headD undef) w R))
def Flaws_lmCalls.H : Hints := {draw := fun i => match i with | 6 => { T := [0, 0, 3, 7, 0, 0, 48, 112, 255, 511] } | _ => {}, loop := fun i => match i with | 4 => some (0, [0, 1, 4, 5]) | _ => none}
theorem Flaws_lmCalls.eq (t0 t1 : Value) : trF PR CX Flaws_lmCalls.H Tryz.f58 [t0, t1] = Flaws_lmCalls t0 t1 := by kernel_rfl
theorem Flaws_lmCalls.cl {t0 t1 : Value} {w : World} {R : VW} (h : Flaws_lmCalls t0 t1 w R) : clT PR 58 [t0, t1] w R := cl_of_tr (H := Flaws_lmCalls.H) ctxOk Tryz.func58 rfl (by rw [Flaws_lmCalls.eq]; exact h)

/-! function 63: laws_lmWith -/
def Flaws_lmWith (t0 t1 t2 t3 : Value) (w : World) (R : VW) : Prop :=
  boxT 42 t0 w fun t4 w1 =>
  boxT 57 t1 w1 fun t5 w2 =>
  boxT 76 t2 w2 fun t6 w3 =>
  allocT 42 #[(.slice none 0 0)] w3 fun t8 w4 =>
  allocT 57 #[(.slice none 0 0), (.int .i64 0), (.int .i64 0), (.slice none 0 0), (.int .i64 0)] w4 fun t9 w5 =>
  ldsT 1 t4 (w5.drew) fun t15 =>
  ldsT 5 t5 (w5.drew) fun t16 =>
  clT PR 66 [t15, t16] (w5.drew) fun t17 w6 =>
  notT t17 fun t18 =>
  condT t18
  (ldsT 1 t4 (w6.drew) fun t47 =>
  ldsT 5 t5 (w6.drew) fun t48 =>
  stsT 1 t8 t47 (w6.drew) fun w7 =>
  (ldsT 5 t5 w7 fun u => u = t48) ∧
  stsT 5 t9 t48 w7 fun w8 =>
  ldsT 1 t8 w8 fun r9 =>
  ldsT 5 t9 w8 fun r10 =>
  R (.tuple #[r9, r10, (.bool false)]) w8)
  (fadT 4 t5 fun t20 =>
  ldT t20 w6 fun t21 =>
  binT .neq t21 (.int .i64 0) fun t22 =>
  condT t22
  (ldsT 1 t4 (w6.drew) fun t47 =>
  ldsT 5 t5 (w6.drew) fun t48 =>
  stsT 1 t8 t47 (w6.drew) fun w11 =>
  (ldsT 5 t5 w11 fun u => u = t48) ∧
  stsT 5 t9 t48 w11 fun w12 =>
  ldsT 1 t8 w12 fun r13 =>
  ldsT 5 t9 w12 fun r14 =>
  R (.tuple #[r13, r14, (.bool false)]) w12)
  (fadT 0 t5 fun t25 =>
  ldT t25 w6 fun t26 =>
  fadT 1 t5 fun t27 =>
  ldT t27 w6 fun t28 =>
  ixaT 6 t26 t28 fun t29 =>
  fadT 1 t29 fun t30 =>
  ldT t30 w6 fun t31 =>
  fadT 0 t4 fun t32 =>
  ldT t32 w6 fun t33 =>
  fadT 0 t5 fun t34 =>
  ldT t34 w6 fun t35 =>
  fadT 1 t5 fun t36 =>
  ldT t36 w6 fun t37 =>
  ixaT 6 t35 t37 fun t38 =>
  fadT 0 t38 fun t39 =>
  ldT t39 w6 fun t40 =>
  ixaT 3 t33 t40 fun t41 =>
  fadT 2 t41 fun t42 =>
  ldT t42 w6 fun t43 =>
  lenT t43 fun t44 =>
  binT .geq t31 t44 fun t45 =>
  condT t45
  (ldsT 1 t4 (w6.drew) fun t47 =>
  ldsT 5 t5 (w6.drew) fun t48 =>
  stsT 1 t8 t47 (w6.drew) fun w15 =>
  (ldsT 5 t5 w15 fun u => u = t48) ∧
  stsT 5 t9 t48 w15 fun w16 =>
  ldsT 1 t8 w16 fun r17 =>
  ldsT 5 t9 w16 fun r18 =>
  R (.tuple #[r17, r18, (.bool false)]) w16)
  (fadT 0 t5 fun t49 =>
  ldT t49 w6 fun t50 =>
  fadT 1 t5 fun t51 =>
  ldT t51 w6 fun t52 =>
  ixaT 6 t50 t52 fun t53 =>
  ldsT 6 t53 w6 fun t54 =>
  allocT 89 #[(.int .i64 0), (.int .i64 0), (.slice none 0 0), (.slice none 0 0), (.int .i64 0), (.bool false)] w6 fun t11 w19 =>
  stsT 6 t11 t54 w19 fun w20 =>
  bslT 87 0 3 #[] [] w20 fun t55 w21 =>
  fadT 0 t4 fun t56 =>
  ldT t56 w21 fun t57 =>
  opT PR (Builtin.append_ #[40, 40] 40 #[t55, t57]) w21 fun t58 w22 =>
  bldT #[(.slice none 0 0)] [(0, 1, t58)] fun t59 =>
  allocT 42 #[(.slice none 0 0)] w22 fun t12 w23 =>
  stsT 1 t12 t59 w23 fun w24 =>
  fadT 0 t12 fun t60 =>
  ldT t60 w24 fun t61 =>
  fadT 0 t11 fun t62 =>
  ldT t62 w24 fun t63 =>
  ixaT 3 t61 t63 fun t64 =>
  ldsT 3 t64 w24 fun t65 =>
  allocT 87 #[(.int .i64 0), (.int .i64 0), (.slice none 0 0)] w24 fun t13 w25 =>
  stsT 3 t13 t65 w25 fun w26 =>
  bslT 76 0 2 #[] [] w26 fun t66 w27 =>
  fadT 2 t13 fun t67 =>
  ldT t67 w27 fun t68 =>
  opT PR (Builtin.append_ #[85, 85] 85 #[t66, t68]) w27 fun t69 w28 =>
  fadT 2 t13 fun t70 =>
  stT t70 t69 w28 fun w29 =>
  fadT 2 t13 fun t71 =>
  ldT t71 w29 fun t72 =>
  fadT 1 t11 fun t73 =>
  ldT t73 w29 fun t74 =>
  ldsT 2 t6 w29 fun t75 =>
  ixaT 2 t72 t74 fun t76 =>
  stsT 2 t76 t75 w29 fun w30 =>
  fadT 0 t12 fun t77 =>
  ldT t77 w30 fun t78 =>
  fadT 0 t11 fun t79 =>
  ldT t79 w30 fun t80 =>
  ldsT 3 t13 w30 fun t81 =>
  ixaT 3 t78 t80 fun t82 =>
  stsT 3 t82 t81 w30 fun w31 =>
  ldsT 5 t5 w31 fun t83 =>
  allocT 57 #[(.slice none 0 0), (.int .i64 0), (.int .i64 0), (.slice none 0 0), (.int .i64 0)] w31 fun t14 w32 =>
  stsT 5 t14 t83 w32 fun w33 =>
  bslT 89 0 6 #[] [] w33 fun t84 w34 =>
  fadT 0 t5 fun t85 =>
  ldT t85 w34 fun t86 =>
  opT PR (Builtin.append_ #[55, 55] 55 #[t84, t86]) w34 fun t87 w35 =>
  fadT 0 t14 fun t88 =>
  stT t88 t87 w35 fun w36 =>
  bslT 78 0 2 #[] [] w36 fun t89 w37 =>
  opT PR (Builtin.append_ #[35, 35] 35 #[t89, t3]) w37 fun t91 w38 =>
  fadT 3 t11 fun t92 =>
  stT t92 t91 w38 fun w39 =>
  fadT 0 t14 fun t93 =>
  ldT t93 w39 fun t94 =>
  fadT 1 t14 fun t95 =>
  ldT t95 w39 fun t96 =>
  ldsT 6 t11 w39 fun t97 =>
  ixaT 6 t94 t96 fun t98 =>
  stsT 6 t98 t97 w39 fun w40 =>
  ldsT 1 t12 (w40.drew) fun t99 =>
  ldsT 5 t14 (w40.drew) fun t100 =>
  ldsT 1 t12 (w40.drew) fun t101 =>
  clT PR 149 [t101] (w40.drew) fun t102 w41 =>
  (ldsT 5 t14 w41 fun u => u = t100) ∧
  (ldsT 1 t12 w41 fun u => u = t99) ∧
  condT t102
  (ldsT 1 t12 w41 fun t104 =>
  ldsT 5 t14 w41 fun t105 =>
  clT PR 66 [t104, t105] w41 fun t106 w42 =>
  (ldsT 5 t14 w42 fun u => u = t100) ∧
  (ldsT 1 t12 w42 fun u => u = t99) ∧
  stsT 1 t8 t99 w42 fun w43 =>
  (ldsT 5 t14 w43 fun u => u = t100) ∧
  stsT 5 t9 t100 w43 fun w44 =>
  ldsT 1 t8 w44 fun r45 =>
  ldsT 5 t9 w44 fun r46 =>
  R (.tuple #[r45, r46, t106]) w44)
  (stsT 1 t8 t99 w41 fun w47 =>
  (ldsT 5 t14 w47 fun u => u = t100) ∧
  stsT 5 t9 t100 w47 fun w48 =>
  ldsT 1 t8 w48 fun r49 =>
  ldsT 5 t9 w48 fun r50 =>
  R (.tuple #[r49, r50, (.bool false)]) w48))))
def Flaws_lmWith.H : Hints := {draw := fun i => match i with | 1 => { T := [0, 0, 3, 7, 15, 31, 63, 127, 255, 511, 1023, 2047, 1023, 5119, 16383, 32767, 65535, 1023, 132095, 1023, 525311, 1023, 2098175, 7865343, 16253951, 33031167, 66978815, 134087679, 268305407, 536740863, 1073741823, 2147483647] } | 2 => { T := [0, 0, 1, 7, 15] } | 13 => { T := [0, 0, 0, 4, 12, 28, 28, 124, 252, 253, 767, 2047] } | _ => {}}
theorem Flaws_lmWith.eq (t0 t1 t2 t3 : Value) : trF PR CX Flaws_lmWith.H Tryz.f63 [t0, t1, t2, t3] = Flaws_lmWith t0 t1 t2 t3 := by kernel_rfl
theorem Flaws_lmWith.cl {t0 t1 t2 t3 : Value} {w : World} {R : VW} (h : Flaws_lmWith t0 t1 t2 t3 w R) : clT PR 63 [t0, t1, t2, t3] w R := cl_of_tr (H := Flaws_lmWith.H) ctxOk Tryz.func63 rfl (by rw [Flaws_lmWith.eq]; exact h)

/-! function 64: laws_lmNum -/
def Flaws_lmNum (t0 : Value) (w : World) (R : VW) : Prop :=
  allocT 78 #[(.int .i64 0), (.int .i64 0)] w fun t2 w1 =>
  bldT #[(.int .i64 0), (.int .i64 0)] [(0, 1, (.int .i64 1)), (1, 1, t0)] fun t4 =>
  stsT 2 t2 t4 w1 fun w2 =>
  ldsT 2 t2 w2 fun r3 =>
  R r3 w2
def Flaws_lmNum.H : Hints := {}
theorem Flaws_lmNum.eq (t0 : Value) : trF PR CX Flaws_lmNum.H Tryz.f64 [t0] = Flaws_lmNum t0 := by kernel_rfl
theorem Flaws_lmNum.cl {t0 : Value} {w : World} {R : VW} (h : Flaws_lmNum t0 w R) : clT PR 64 [t0] w R := cl_of_tr (H := Flaws_lmNum.H) ctxOk Tryz.func64 rfl (by rw [Flaws_lmNum.eq]; exact h)

/-! function 67: laws_lmHeap -/
def Flaws_lmHeap (t0 t1 : Value) (w : World) (R : VW) : Prop :=
  boxT 57 t0 w fun t2 w1 =>
  boxT 57 t1 w1 fun t3 w2 =>
  fadT 0 t2 fun t5 =>
  ldT t5 w2 fun t6 =>
  fadT 0 t3 fun t7 =>
  ldT t7 w2 fun t8 =>
  clT PR 58 [t6, t8] w2 fun t9 w3 =>
  condT t9
  (fadT 1 t2 fun t11 =>
  ldT t11 w3 fun t12 =>
  fadT 1 t3 fun t13 =>
  ldT t13 w3 fun t14 =>
  binT .eql t12 t14 fun t15 =>
  condT t15
  (fadT 2 t2 fun t18 =>
  ldT t18 w3 fun t19 =>
  fadT 2 t3 fun t20 =>
  ldT t20 w3 fun t21 =>
  binT .eql t19 t21 fun t22 =>
  condT t22
  (fadT 4 t2 fun t25 =>
  ldT t25 w3 fun t26 =>
  fadT 4 t3 fun t27 =>
  ldT t27 w3 fun t28 =>
  binT .eql t26 t28 fun t29 =>
  condT t29
  (fadT 3 t2 fun t32 =>
  ldT t32 w3 fun t33 =>
  fadT 3 t3 fun t34 =>
  ldT t34 w3 fun t35 =>
  clT PR 80 [t33, t35] w3 fun t36 w4 =>
  R t36 w4)
  (R (.bool false) w3))
  (R (.bool false) w3))
  (R (.bool false) w3))
  (R (.bool false) w3)
def Flaws_lmHeap.H : Hints := {}
theorem Flaws_lmHeap.eq (t0 t1 : Value) : trF PR CX Flaws_lmHeap.H Tryz.f67 [t0, t1] = Flaws_lmHeap t0 t1 := by kernel_rfl
theorem Flaws_lmHeap.cl {t0 t1 : Value} {w : World} {R : VW} (h : Flaws_lmHeap t0 t1 w R) : clT PR 67 [t0, t1] w R := cl_of_tr (H := Flaws_lmHeap.H) ctxOk Tryz.func67 rfl (by rw [Flaws_lmHeap.eq]; exact h)

/-! function 68: laws_lmAfter -/
def Flaws_lmAfter.l1 (x1 x2 x4 x5 x6 : Value) (w : World) (Kn Kb Kr : LW) : Prop := ∀ _ : Env,
  fadT 0 x2 fun t12 =>
  ldT t12 w fun t13 =>
  lenT t13 fun t14 =>
  binT .lss x6 t14 fun t15 =>
  condT t15
  (fadT 0 x2 fun t18 =>
  ldT t18 w fun t19 =>
  ixaT 6 t19 x6 fun t21 =>
  ldsT 6 t21 w fun t22 =>
  allocT 89 #[(.int .i64 0), (.int .i64 0), (.slice none 0 0), (.slice none 0 0), (.int .i64 0), (.bool false)] w fun t7 w7 =>
  stsT 6 t7 t22 w7 fun w8 =>
  bslT 78 0 2 #[] [] w8 fun t23 w9 =>
  fadT 2 t7 fun t24 =>
  ldT t24 w9 fun t25 =>
  opT PR (Builtin.append_ #[35, 35] 35 #[t23, t25]) w9 fun t26 w10 =>
  fadT 2 t7 fun t27 =>
  stT t27 t26 w10 fun w11 =>
  bslT 78 0 2 #[] [] w11 fun t28 w12 =>
  fadT 3 t7 fun t29 =>
  ldT t29 w12 fun t30 =>
  opT PR (Builtin.append_ #[35, 35] 35 #[t28, t30]) w12 fun t31 w13 =>
  fadT 3 t7 fun t32 =>
  stT t32 t31 w13 fun w14 =>
  fadT 0 x5 fun t33 =>
  ldT t33 w14 fun t34 =>
  ldsT 6 t7 w14 fun t35 =>
  bslT 89 1 6 #[(.int .i64 0), (.int .i64 0), (.slice none 0 0), (.slice none 0 0), (.int .i64 0), (.bool false)] [(0, 6, t35)] w14 fun t36 w15 =>
  opT PR (Builtin.append_ #[55, 55] 55 #[t34, t36]) w15 fun t37 w16 =>
  fadT 0 x5 fun t38 =>
  stT t38 t37 w16 fun w17 =>
  binT .add x6 (.int .i64 1) fun t17 =>
  Kn [x1, x2, x4, x5, t17] w17)
  (Kb [x1, x2, x4, x5, x6] w)
def Flaws_lmAfter.k2 (x1 x2 x4 x5 x6 : Value) (w : World) (R : VW) : Prop := ∀ _ : Env,
  bslT 78 0 2 #[] [] w fun t39 w18 =>
  fadT 3 x2 fun t40 =>
  ldT t40 w18 fun t41 =>
  opT PR (Builtin.append_ #[35, 35] 35 #[t39, t41]) w18 fun t42 w19 =>
  fadT 3 x5 fun t43 =>
  stT t43 t42 w19 fun w20 =>
  fadT 0 x5 fun t44 =>
  ldT t44 (w20.drew) fun t45 =>
  fadT 1 x5 fun t46 =>
  ldT t46 (w20.drew) fun t47 =>
  bslT 78 0 2 #[] [] (w20.drew) fun t48 w21 =>
  (ldT t46 w21 fun u => u = t47) ∧
  (ldT t44 w21 fun u => u = t45) ∧
  opT PR (Builtin.append_ #[35, 35] 35 #[t48, x1]) w21 fun t50 w22 =>
  (ldT t46 w22 fun u => u = t47) ∧
  (ldT t44 w22 fun u => u = t45) ∧
  ixaT 6 t45 t47 fun t51 =>
  fadT 3 t51 fun t52 =>
  stT t52 t50 w22 fun w23 =>
  fadT 0 x5 fun t53 =>
  ldT t53 (w23.drew) fun t54 =>
  fadT 1 x5 fun t55 =>
  ldT t55 (w23.drew) fun t56 =>
  fadT 0 x5 fun t57 =>
  ldT t57 (w23.drew) fun t58 =>
  fadT 1 x5 fun t59 =>
  ldT t59 (w23.drew) fun t60 =>
  ixaT 6 t58 t60 fun t61 =>
  fadT 1 t61 fun t62 =>
  ldT t62 (w23.drew) fun t63 =>
  binT .add t63 (.int .i64 1) fun t64 =>
  ixaT 6 t54 t56 fun t65 =>
  fadT 1 t65 fun t66 =>
  stT t66 t64 (w23.drew) fun w24 =>
  ldsT 5 x5 w24 fun t67 =>
  stsT 5 x4 t67 w24 fun w25 =>
  ldsT 5 x4 w25 fun r26 =>
  R r26 w25
def Flaws_lmAfter.r3 (x1 x2 x4 x5 x6 : Value) (w : World) (R : VW) : Prop := ∀ _ : Env,
  ldsT 5 x4 w fun r27 =>
  R r27 w
def Flaws_lmAfter (t0 t1 : Value) (w : World) (R : VW) : Prop :=
  boxT 57 t0 w fun t2 w1 =>
  allocT 57 #[(.slice none 0 0), (.int .i64 0), (.int .i64 0), (.slice none 0 0), (.int .i64 0)] w1 fun t4 w2 =>
  ldsT 5 t2 w2 fun t8 =>
  allocT 57 #[(.slice none 0 0), (.int .i64 0), (.int .i64 0), (.slice none 0 0), (.int .i64 0)] w2 fun t5 w3 =>
  stsT 5 t5 t8 w3 fun w4 =>
  bslT 89 0 6 #[] [] w4 fun t9 w5 =>
  fadT 0 t5 fun t10 =>
  stT t10 t9 w5 fun w6 =>
  loopT (fun s w Kn Kb Kr => Flaws_lmAfter.l1 (s.headD undef) (s.tail.headD undef) (s.tail.tail.headD undef) (s.tail.tail.tail.headD undef) (s.tail.tail.tail.tail.headD undef) w Kn Kb Kr) [t1, t2, t4, t5, (.int .i64 0)] w6
  (fun s w => Flaws_lmAfter.k2 (s.headD undef) (s.tail.headD undef) (s.tail.tail.headD undef) (s.tail.tail.tail.headD undef) (s.tail.tail.tail.tail.headD undef) w R)
  (fun s w => Flaws_lmAfter.r3 (s.headD undef) (s.tail.headD undef) (s.tail.tail.headD undef) (s.tail.tail.tail.headD undef) (s.tail.tail.tail.tail.headD undef) w R)
def Flaws_lmAfter.H : Hints := {draw := fun i => match i with | 11 => { T := [0, 1, 0, 4, 0, 0, 48, 127, 255, 511] } | 12 => { T := [0, 1, 0, 4, 0, 16, 0, 64, 240, 496, 1008, 2032, 4095, 8191, 16383] } | _ => {}, loop := fun i => match i with | 4 => some (0, [1, 2, 4, 5, 6]) | _ => none}
theorem Flaws_lmAfter.eq (t0 t1 : Value) : trF PR CX Flaws_lmAfter.H Tryz.f68 [t0, t1] = Flaws_lmAfter t0 t1 := by kernel_rfl
theorem Flaws_lmAfter.cl {t0 t1 : Value} {w : World} {R : VW} (h : Flaws_lmAfter t0 t1 w R) : clT PR 68 [t0, t1] w R := cl_of_tr (H := Flaws_lmAfter.H) ctxOk Tryz.func68 rfl (by rw [Flaws_lmAfter.eq]; exact h)

/-! function 69: laws_lmOf -/
def Flaws_lmOf (t0 : Value) (w : World) (R : VW) : Prop :=
  allocT 78 #[(.int .i64 0), (.int .i64 0)] w fun t2 w1 =>
  bldT #[(.int .i64 0), (.int .i64 0)] [(0, 1, (.int .i64 2)), (1, 1, t0)] fun t4 =>
  stsT 2 t2 t4 w1 fun w2 =>
  ldsT 2 t2 w2 fun r3 =>
  R r3 w2
def Flaws_lmOf.H : Hints := {}
theorem Flaws_lmOf.eq (t0 : Value) : trF PR CX Flaws_lmOf.H Tryz.f69 [t0] = Flaws_lmOf t0 := by kernel_rfl
theorem Flaws_lmOf.cl {t0 : Value} {w : World} {R : VW} (h : Flaws_lmOf t0 w R) : clT PR 69 [t0] w R := cl_of_tr (H := Flaws_lmOf.H) ctxOk Tryz.func69 rfl (by rw [Flaws_lmOf.eq]; exact h)

/-! function 80: laws_lmVals -/
def Flaws_lmVals.l1 (x0 x1 x4 x5 : Value) (w : World) (Kn Kb Kr : LW) : Prop := ∀ _ : Env,
  lenT x0 fun t13 =>
  binT .lss x5 t13 fun t14 =>
  condT t14
  (ixaT 2 x0 x5 fun t19 =>
  ldsT 2 t19 (w.drew) fun t20 =>
  ixaT 2 x1 x5 fun t23 =>
  ldsT 2 t23 (w.drew) fun t24 =>
  opT PR (do eqGuard .neq 78 (.tmp 20) (.tmp 24) t20 t24; binOp .neq 78 t20 t24) (w.drew) fun t25 w1 =>
  condT t25
  (Kr [x0, x1, (.bool false), x5] w1)
  (binT .add x5 (.int .i64 1) fun t16 =>
  Kn [x0, x1, x4, t16] w1))
  (Kb [x0, x1, x4, x5] w)
def Flaws_lmVals.k2 (x0 x1 x4 x5 : Value) (w : World) (R : VW) : Prop := ∀ _ : Env,
  R (.bool true) w
def Flaws_lmVals.r3 (x0 x1 x4 x5 : Value) (w : World) (R : VW) : Prop := ∀ _ : Env,
  R x4 w
def Flaws_lmVals (t0 t1 : Value) (w : World) (R : VW) : Prop :=
  lenT t0 fun t7 =>
  lenT t1 fun t9 =>
  binT .neq t7 t9 fun t10 =>
  condT t10
  (R (.bool false) w)
  (loopT (fun s w Kn Kb Kr => Flaws_lmVals.l1 (s.headD undef) (s.tail.headD undef) (s.tail.tail.headD undef) (s.tail.tail.tail.headD undef) w Kn Kb Kr) [t0, t1, (.bool false), (.int .i64 0)] w
  (fun s w => Flaws_lmVals.k2 (s.headD undef) (s.tail.headD undef) (s.tail.tail.headD undef) (s.tail.tail.tail.headD undef) w R)
  (fun s w => Flaws_lmVals.r3 (s.headD undef) (s.tail.headD undef) (s.tail.tail.headD undef) (s.tail.tail.tail.headD undef) w R))
def Flaws_lmVals.H : Hints := {draw := fun i => match i with | 6 => { T := [0, 0, 3, 7, 0, 0, 48, 112, 255] } | _ => {}, loop := fun i => match i with | 4 => some (0, [0, 1, 4, 5]) | _ => none}
theorem Flaws_lmVals.eq (t0 t1 : Value) : trF PR CX Flaws_lmVals.H Tryz.f80 [t0, t1] = Flaws_lmVals t0 t1 := by kernel_rfl
theorem Flaws_lmVals.cl {t0 t1 : Value} {w : World} {R : VW} (h : Flaws_lmVals t0 t1 w R) : clT PR 80 [t0, t1] w R := cl_of_tr (H := Flaws_lmVals.H) ctxOk Tryz.func80 rfl (by rw [Flaws_lmVals.eq]; exact h)

/-! function 134: laws_lmCall -/
def Flaws_lmCall (t0 t1 : Value) (w : World) (R : VW) : Prop :=
  boxT 89 t0 w fun t2 w1 =>
  boxT 89 t1 w1 fun t3 w2 =>
  fadT 0 t2 fun t5 =>
  ldT t5 w2 fun t6 =>
  fadT 0 t3 fun t7 =>
  ldT t7 w2 fun t8 =>
  binT .eql t6 t8 fun t9 =>
  condT t9
  (fadT 1 t2 fun t11 =>
  ldT t11 w2 fun t12 =>
  fadT 1 t3 fun t13 =>
  ldT t13 w2 fun t14 =>
  binT .eql t12 t14 fun t15 =>
  condT t15
  (fadT 4 t2 fun t18 =>
  ldT t18 w2 fun t19 =>
  fadT 4 t3 fun t20 =>
  ldT t20 w2 fun t21 =>
  binT .eql t19 t21 fun t22 =>
  condT t22
  (fadT 5 t2 fun t25 =>
  ldT t25 w2 fun t26 =>
  fadT 5 t3 fun t27 =>
  ldT t27 w2 fun t28 =>
  opT PR (do eqGuard .eql 4 (.tmp 26) (.tmp 28) t26 t28; binOp .eql 4 t26 t28) w2 fun t29 w3 =>
  condT t29
  (fadT 2 t2 fun t32 =>
  ldT t32 w3 fun t33 =>
  fadT 2 t3 fun t34 =>
  ldT t34 w3 fun t35 =>
  clT PR 80 [t33, t35] w3 fun t36 w4 =>
  condT t36
  (fadT 3 t2 fun t39 =>
  ldT t39 w4 fun t40 =>
  fadT 3 t3 fun t41 =>
  ldT t41 w4 fun t42 =>
  clT PR 80 [t40, t42] w4 fun t43 w5 =>
  R t43 w5)
  (R (.bool false) w4))
  (R (.bool false) w3))
  (R (.bool false) w2))
  (R (.bool false) w2))
  (R (.bool false) w2)
def Flaws_lmCall.H : Hints := {}
theorem Flaws_lmCall.eq (t0 t1 : Value) : trF PR CX Flaws_lmCall.H Tryz.f134 [t0, t1] = Flaws_lmCall t0 t1 := by kernel_rfl
theorem Flaws_lmCall.cl {t0 t1 : Value} {w : World} {R : VW} (h : Flaws_lmCall t0 t1 w R) : clT PR 134 [t0, t1] w R := cl_of_tr (H := Flaws_lmCall.H) ctxOk Tryz.func134 rfl (by rw [Flaws_lmCall.eq]; exact h)
end Go.PT
