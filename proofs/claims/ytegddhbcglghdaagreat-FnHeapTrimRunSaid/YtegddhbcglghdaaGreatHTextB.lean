/- The reflected texts of functions of the program, and that a call keeps what its text says. -/
import Derived.Test.YtegddhbcglghdaaGreatCtx
set_option linter.unusedVariables false
set_option maxRecDepth 100000
namespace Go.PT
open Go.Proofs
/-! function 92: impl_HeapOk -/
def Fimpl_HeapOk.l1 (x2 x3 x4 x5 x46 x47 x48 : Value) (w : World) (Kn Kb Kr : LW) : Prop := ∀ _ : Env,
  binT .lss x48 x47 fun t49 =>
  condT t49
  (ixaT 6 x46 x48 fun t50 =>
  ldsT 6 t50 w fun t51 =>
  allocT 89 #[(.int .i64 0), (.int .i64 0), (.slice none 0 0), (.slice none 0 0), (.int .i64 0), (.bool false)] w fun t7 w6 =>
  stsT 6 t7 t51 w6 fun w7 =>
  ldsT 6 t7 w7 fun t52 =>
  ldsT 1 x2 w7 fun t53 =>
  fadT 0 x3 fun t54 =>
  ldT t54 w7 fun t55 =>
  lenT t55 fun t56 =>
  clT PR 178 [t52, t53, t56] w7 fun t57 w8 =>
  notT t57 fun t58 =>
  condT t58
  (Kr [x2, x3, (.bool false), x5, x46, x47, x48] w8)
  (fadT 5 t7 fun t59 =>
  ldT t59 w8 fun t60 =>
  notT t60 fun t61 =>
  condT t61
  (binT .add x5 (.int .i64 1) fun t63 =>
  binT .add x48 (.int .i64 1) fun t64 =>
  Kn [x2, x3, x4, t63, x46, x47, t64] w8)
  (binT .add x48 (.int .i64 1) fun t64 =>
  Kn [x2, x3, x4, x5, x46, x47, t64] w8)))
  (Kb [x2, x3, x4, x5, x46, x47, x48] w)
def Fimpl_HeapOk.l3 (x3 x4 x5 x8 : Value) (w : World) (Kn Kb Kr : LW) : Prop := ∀ _ : Env,
  binT .geq x8 (.int .i64 0) fun t68 =>
  condT t68
  (fadT 0 x3 fun t75 =>
  ldT t75 w fun t76 =>
  ixaT 6 t76 x8 fun t78 =>
  ldsT 6 t78 w fun t79 =>
  allocT 89 #[(.int .i64 0), (.int .i64 0), (.slice none 0 0), (.slice none 0 0), (.int .i64 0), (.bool false)] w fun t9 w9 =>
  stsT 6 t9 t79 w9 fun w10 =>
  binT .sub x5 (.int .i64 1) fun t81 =>
  binT .lss t81 (.int .i64 0) fun t83 =>
  condT t83
  (Kr [x3, (.bool false), t81, x8] w10)
  (fadT 5 t9 fun t85 =>
  ldT t85 w10 fun t86 =>
  condT t86
  (Kr [x3, (.bool false), t81, x8] w10)
  (fadT 1 x3 fun t90 =>
  ldT t90 w10 fun t91 =>
  binT .neq x8 t91 fun t92 =>
  condT t92
  (fadT 3 t9 fun t94 =>
  ldT t94 w10 fun t95 =>
  lenT t95 fun t96 =>
  binT .eql t96 (.int .i64 6) fun t97 =>
  condT t97
  (Kr [x3, (.bool false), t81, x8] w10)
  (fadT 0 x3 fun t69 =>
  ldT t69 w10 fun t70 =>
  ixaT 6 t70 x8 fun t72 =>
  fadT 4 t72 fun t73 =>
  ldT t73 w10 fun t74 =>
  Kn [x3, x4, t81, t74] w10))
  (fadT 0 x3 fun t69 =>
  ldT t69 w10 fun t70 =>
  ixaT 6 t70 x8 fun t72 =>
  fadT 4 t72 fun t73 =>
  ldT t73 w10 fun t74 =>
  Kn [x3, x4, t81, t74] w10))))
  (Kb [x3, x4, x5, x8] w)
def Fimpl_HeapOk.k4 (x3 x4 x5 x8 : Value) (w : World) (R : VW) : Prop := ∀ _ : Env,
  binT .eql x5 (.int .i64 0) fun t101 =>
  R t101 w
def Fimpl_HeapOk.r5 (x3 x4 x5 x8 : Value) (w : World) (R : VW) : Prop := ∀ _ : Env,
  R x4 w
def Fimpl_HeapOk.k2 (x2 x3 x4 x5 x46 x47 x48 : Value) (w : World) (R : VW) : Prop := ∀ _ : Env,
  fadT 1 x3 fun t65 =>
  ldT t65 w fun t66 =>
  loopT (fun s w Kn Kb Kr => Fimpl_HeapOk.l3 (s.headD undef) (s.tail.headD undef) (s.tail.tail.headD undef) (s.tail.tail.tail.headD undef) w Kn Kb Kr) [x3, x4, x5, t66] w
  (fun s w => Fimpl_HeapOk.k4 (s.headD undef) (s.tail.headD undef) (s.tail.tail.headD undef) (s.tail.tail.tail.headD undef) w R)
  (fun s w => Fimpl_HeapOk.r5 (s.headD undef) (s.tail.headD undef) (s.tail.tail.headD undef) (s.tail.tail.tail.headD undef) w R)
def Fimpl_HeapOk.r6 (x2 x3 x4 x5 x46 x47 x48 : Value) (w : World) (R : VW) : Prop := ∀ _ : Env,
  R x4 w
def Fimpl_HeapOk (t0 t1 : Value) (w : World) (R : VW) : Prop :=
  boxT 42 t0 w fun t2 w1 =>
  boxT 57 t1 w1 fun t3 w2 =>
  ldsT 1 t2 w2 fun t10 =>
  clT PR 135 [t10] w2 fun t11 w3 =>
  notT t11 fun t12 =>
  condT t12
  (R (.bool false) w3)
  (fadT 1 t3 fun t14 =>
  ldT t14 w3 fun t15 =>
  fadT 0 t3 fun t16 =>
  ldT t16 w3 fun t17 =>
  lenT t17 fun t18 =>
  binT .sub t18 (.int .i64 1) fun t19 =>
  clT PR 147 [t15, (.int .i64 (-1)), t19] w3 fun t20 w4 =>
  notT t20 fun t21 =>
  condT t21
  (R (.bool false) w4)
  (ldsT 1 t2 w4 fun t24 =>
  fadT 2 t3 fun t25 =>
  ldT t25 w4 fun t26 =>
  fadT 3 t3 fun t27 =>
  ldT t27 w4 fun t28 =>
  fadT 4 t3 fun t29 =>
  ldT t29 w4 fun t30 =>
  fadT 1 t3 fun t31 =>
  ldT t31 w4 fun t32 =>
  binT .eql t32 (.int .i64 (-1)) fun t33 =>
  clT PR 137 [t24, t26, t28, t30, t33] w4 fun t34 w5 =>
  notT t34 fun t35 =>
  condT t35
  (R (.bool false) w5)
  (fadT 0 t3 fun t38 =>
  ldT t38 w5 fun t39 =>
  lenT t39 fun t40 =>
  fadT 2 t3 fun t41 =>
  ldT t41 w5 fun t42 =>
  binT .gtr t40 t42 fun t43 =>
  condT t43
  (R (.bool false) w5)
  (fadT 0 t3 fun t45 =>
  ldT t45 w5 fun t46 =>
  lenT t46 fun t47 =>
  loopT (fun s w Kn Kb Kr => Fimpl_HeapOk.l1 (s.headD undef) (s.tail.headD undef) (s.tail.tail.headD undef) (s.tail.tail.tail.headD undef) (s.tail.tail.tail.tail.headD undef) (s.tail.tail.tail.tail.tail.headD undef) (s.tail.tail.tail.tail.tail.tail.headD undef) w Kn Kb Kr) [t2, t3, (.bool false), (.int .i64 0), t46, t47, (.int .i64 0)] w5
  (fun s w => Fimpl_HeapOk.k2 (s.headD undef) (s.tail.headD undef) (s.tail.tail.headD undef) (s.tail.tail.tail.headD undef) (s.tail.tail.tail.tail.headD undef) (s.tail.tail.tail.tail.tail.headD undef) (s.tail.tail.tail.tail.tail.tail.headD undef) w R)
  (fun s w => Fimpl_HeapOk.r6 (s.headD undef) (s.tail.headD undef) (s.tail.tail.headD undef) (s.tail.tail.tail.headD undef) (s.tail.tail.tail.tail.headD undef) (s.tail.tail.tail.tail.tail.headD undef) (s.tail.tail.tail.tail.tail.tail.headD undef) w R)))))
def Fimpl_HeapOk.H : Hints := {loop := fun i => match i with | 5 => some (0, [2, 3, 4, 5, 46, 47, 48]) | 13 => some (2, [3, 4, 5, 8]) | _ => none}
theorem Fimpl_HeapOk.eq (t0 t1 : Value) : trF PR CX Fimpl_HeapOk.H Tryz.f92 [t0, t1] = Fimpl_HeapOk t0 t1 := by kernel_rfl
theorem Fimpl_HeapOk.cl {t0 t1 : Value} {w : World} {R : VW} (h : Fimpl_HeapOk t0 t1 w R) : clT PR 92 [t0, t1] w R := cl_of_tr (H := Fimpl_HeapOk.H) ctxOk Tryz.func92 rfl (by rw [Fimpl_HeapOk.eq]; exact h)

/-! function 135: impl_ProgOk -/
def Fimpl_ProgOk (t0 : Value) (w : World) (R : VW) : Prop :=
  boxT 42 t0 w fun t1 w1 =>
  fadT 0 t1 fun t3 =>
  ldT t3 w1 fun t4 =>
  lenT t4 fun t5 =>
  clT PR 147 [t5, (.int .i64 1), (.int .i64 4)] w1 fun t6 w2 =>
  notT t6 fun t7 =>
  condT t7
  (R (.bool false) w2)
  (fadT 0 t1 fun t9 =>
  ldT t9 w2 fun t10 =>
  ixaT 3 t10 (.int .i64 0) fun t11 =>
  fadT 0 t11 fun t12 =>
  ldT t12 w2 fun t13 =>
  binT .neq t13 (.int .i64 0) fun t14 =>
  condT t14
  (R (.bool false) w2)
  (fadT 0 t1 fun t16 =>
  ldT t16 w2 fun t17 =>
  clT PR 197 [t17, (.func (.func 198) #[] #[t1])] w2 fun t19 w3 =>
  notT t19 fun t20 =>
  R t20 w3))
def Fimpl_ProgOk.H : Hints := {}
theorem Fimpl_ProgOk.eq (t0 : Value) : trF PR CX Fimpl_ProgOk.H Tryz.f135 [t0] = Fimpl_ProgOk t0 := by kernel_rfl
theorem Fimpl_ProgOk.cl {t0 : Value} {w : World} {R : VW} (h : Fimpl_ProgOk t0 w R) : clT PR 135 [t0] w R := cl_of_tr (H := Fimpl_ProgOk.H) ctxOk Tryz.func135 rfl (by rw [Fimpl_ProgOk.eq]; exact h)

/-! function 137: impl_told -/
def Fimpl_told (t0 t1 t2 t3 t4 : Value) (w : World) (R : VW) : Prop :=
  boxT 42 t0 w fun t5 w1 =>
  clT PR 147 [t1, (.int .i64 1), (.int .i64 30)] w1 fun t14 w2 =>
  condT t14
  (clT PR 205 [t2, (.func (.func 203) #[] #[t5])] w2 fun t18 w3 =>
  notT t18 fun t19 =>
  condT t19
  (clT PR 147 [t3, (.int .i64 0), (.int .i64 3)] w3 fun t23 w4 =>
  condT t23
  (binT .eql t3 (.int .i64 1) fun t27 =>
  opT PR (do eqGuard .eql 4 (.tmp 27) (.tmp 28) t27 t4; binOp .eql 4 t27 t4) w4 fun t29 w5 =>
  R t29 w5)
  (R (.bool false) w4))
  (R (.bool false) w3))
  (R (.bool false) w2)
def Fimpl_told.H : Hints := {}
theorem Fimpl_told.eq (t0 t1 t2 t3 t4 : Value) : trF PR CX Fimpl_told.H Tryz.f137 [t0, t1, t2, t3, t4] = Fimpl_told t0 t1 t2 t3 t4 := by kernel_rfl
theorem Fimpl_told.cl {t0 t1 t2 t3 t4 : Value} {w : World} {R : VW} (h : Fimpl_told t0 t1 t2 t3 t4 w R) : clT PR 137 [t0, t1, t2, t3, t4] w R := cl_of_tr (H := Fimpl_told.H) ctxOk Tryz.func137 rfl (by rw [Fimpl_told.eq]; exact h)

/-! function 178: impl_Call_formed -/
def Fimpl_Call_formed (t0 t1 t2 : Value) (w : World) (R : VW) : Prop :=
  boxT 89 t0 w fun t3 w1 =>
  boxT 42 t1 w1 fun t4 w2 =>
  fadT 0 t3 fun t7 =>
  ldT t7 (w2.drew) fun t8 =>
  fadT 0 t4 fun t9 =>
  ldT t9 (w2.drew) fun t10 =>
  lenT t10 fun t11 =>
  binT .sub t11 (.int .i64 1) fun t12 =>
  clT PR 147 [t8, (.int .i64 0), t12] (w2.drew) fun t13 w3 =>
  notT t13 fun t14 =>
  condT t14
  (R (.bool false) w3)
  (fadT 1 t3 fun t16 =>
  ldT t16 w3 fun t17 =>
  fadT 0 t4 fun t18 =>
  ldT t18 w3 fun t19 =>
  fadT 0 t3 fun t20 =>
  ldT t20 w3 fun t21 =>
  ixaT 3 t19 t21 fun t22 =>
  fadT 2 t22 fun t23 =>
  ldT t23 w3 fun t24 =>
  lenT t24 fun t25 =>
  clT PR 147 [t17, (.int .i64 0), t25] w3 fun t26 w4 =>
  notT t26 fun t27 =>
  condT t27
  (R (.bool false) w4)
  (fadT 2 t3 fun t30 =>
  ldT t30 w4 fun t31 =>
  lenT t31 fun t32 =>
  fadT 0 t4 fun t33 =>
  ldT t33 w4 fun t34 =>
  fadT 0 t3 fun t35 =>
  ldT t35 w4 fun t36 =>
  ixaT 3 t34 t36 fun t37 =>
  fadT 1 t37 fun t38 =>
  ldT t38 w4 fun t39 =>
  binT .neq t32 t39 fun t40 =>
  condT t40
  (R (.bool false) w4)
  (fadT 3 t3 fun t42 =>
  ldT t42 w4 fun t43 =>
  lenT t43 fun t44 =>
  binT .gtr t44 (.int .i64 6) fun t45 =>
  condT t45
  (R (.bool false) w4)
  (fadT 2 t3 fun t47 =>
  ldT t47 w4 fun t48 =>
  clT PR 240 [t48, t2] w4 fun t50 w5 =>
  notT t50 fun t51 =>
  condT t51
  (R (.bool false) w5)
  (fadT 3 t3 fun t54 =>
  ldT t54 w5 fun t55 =>
  clT PR 240 [t55, t2] w5 fun t57 w6 =>
  notT t57 fun t58 =>
  condT t58
  (R (.bool false) w6)
  (fadT 4 t3 fun t61 =>
  ldT t61 w6 fun t62 =>
  binT .sub t2 (.int .i64 1) fun t64 =>
  clT PR 147 [t62, (.int .i64 (-1)), t64] w6 fun t65 w7 =>
  notT t65 fun t66 =>
  condT t66
  (R (.bool false) w7)
  (fadT 5 t3 fun t68 =>
  ldT t68 w7 fun t69 =>
  notT t69 fun t70 =>
  condT t70
  (R (.bool true) w7)
  (fadT 3 t3 fun t72 =>
  ldT t72 w7 fun t73 =>
  lenT t73 fun t74 =>
  binT .eql t74 (.int .i64 0) fun t75 =>
  condT t75
  (fadT 4 t3 fun t77 =>
  ldT t77 w7 fun t78 =>
  binT .eql t78 (.int .i64 (-1)) fun t79 =>
  R t79 w7)
  (R (.bool false) w7)))))))))
def Fimpl_Call_formed.H : Hints := {draw := fun i => match i with | 1 => { T := [0, 1, 0, 4, 12, 28, 63, 127, 255, 511, 1023, 511, 2559, 511, 8703, 31231, 63999, 129535, 260607, 524287, 1048575, 2097151, 4194303, 8388607, 16777215, 33554431, 8388607, 75497471, 8388607, 276824063, 1015021567, 2088763391, 4236247039, 8589934591, 17179869183] } | _ => {}}
theorem Fimpl_Call_formed.eq (t0 t1 t2 : Value) : trF PR CX Fimpl_Call_formed.H Tryz.f178 [t0, t1, t2] = Fimpl_Call_formed t0 t1 t2 := by kernel_rfl
theorem Fimpl_Call_formed.cl {t0 t1 t2 : Value} {w : World} {R : VW} (h : Fimpl_Call_formed t0 t1 t2 w R) : clT PR 178 [t0, t1, t2] w R := cl_of_tr (H := Fimpl_Call_formed.H) ctxOk Tryz.func178 rfl (by rw [Fimpl_Call_formed.eq]; exact h)

/-! function 197: slices_ContainsFunc_Method -/
def Fslices_ContainsFunc_Method (t0 t1 : Value) (w : World) (R : VW) : Prop :=
  clT PR 247 [t0, t1] w fun t7 w1 =>
  binT .geq t7 (.int .i64 0) fun t8 =>
  R t8 w1
def Fslices_ContainsFunc_Method.H : Hints := {}
theorem Fslices_ContainsFunc_Method.eq (t0 t1 : Value) : trF PR CX Fslices_ContainsFunc_Method.H Tryz.f197 [t0, t1] = Fslices_ContainsFunc_Method t0 t1 := by kernel_rfl
theorem Fslices_ContainsFunc_Method.cl {t0 t1 : Value} {w : World} {R : VW} (h : Fslices_ContainsFunc_Method t0 t1 w R) : clT PR 197 [t0, t1] w R := cl_of_tr (H := Fslices_ContainsFunc_Method.H) ctxOk Tryz.func197 rfl (by rw [Fslices_ContainsFunc_Method.eq]; exact h)

/-! function 198: impl_ProgOk_1 -/
def Fimpl_ProgOk_1 (t0 t1 : Value) (w : World) (R : VW) : Prop :=
  boxT 87 t0 w fun t2 w1 =>
  fadT 0 t2 fun t4 =>
  ldT t4 w1 fun t5 =>
  clT PR 147 [t5, (.int .i64 0), (.int .i64 2)] w1 fun t6 w2 =>
  notT t6 fun t7 =>
  condT t7
  (R (.bool true) w2)
  (fadT 1 t2 fun t9 =>
  ldT t9 w2 fun t10 =>
  fadT 0 t2 fun t11 =>
  ldT t11 w2 fun t12 =>
  clT PR 147 [t10, t12, (.int .i64 4)] w2 fun t13 w3 =>
  notT t13 fun t14 =>
  condT t14
  (R (.bool true) w3)
  (fadT 2 t2 fun t17 =>
  ldT t17 w3 fun t18 =>
  lenT t18 fun t19 =>
  binT .gtr t19 (.int .i64 14) fun t20 =>
  condT t20
  (R (.bool true) w3)
  (fadT 2 t2 fun t22 =>
  ldT t22 w3 fun t23 =>
  clT PR 199 [t23, (.func (.func 200) #[] #[t1, t2])] w3 fun t25 w4 =>
  R t25 w4)))
def Fimpl_ProgOk_1.H : Hints := {}
theorem Fimpl_ProgOk_1.eq (t0 t1 : Value) : trF PR CX Fimpl_ProgOk_1.H Tryz.f198 [t0, t1] = Fimpl_ProgOk_1 t0 t1 := by kernel_rfl
theorem Fimpl_ProgOk_1.cl {t0 t1 : Value} {w : World} {R : VW} (h : Fimpl_ProgOk_1 t0 t1 w R) : clT PR 198 [t0, t1] w R := cl_of_tr (H := Fimpl_ProgOk_1.H) ctxOk Tryz.func198 rfl (by rw [Fimpl_ProgOk_1.eq]; exact h)

/-! function 199: slices_ContainsFunc_Op -/
def Fslices_ContainsFunc_Op (t0 t1 : Value) (w : World) (R : VW) : Prop :=
  clT PR 248 [t0, t1] w fun t7 w1 =>
  binT .geq t7 (.int .i64 0) fun t8 =>
  R t8 w1
def Fslices_ContainsFunc_Op.H : Hints := {}
theorem Fslices_ContainsFunc_Op.eq (t0 t1 : Value) : trF PR CX Fslices_ContainsFunc_Op.H Tryz.f199 [t0, t1] = Fslices_ContainsFunc_Op t0 t1 := by kernel_rfl
theorem Fslices_ContainsFunc_Op.cl {t0 t1 : Value} {w : World} {R : VW} (h : Fslices_ContainsFunc_Op t0 t1 w R) : clT PR 199 [t0, t1] w R := cl_of_tr (H := Fslices_ContainsFunc_Op.H) ctxOk Tryz.func199 rfl (by rw [Fslices_ContainsFunc_Op.eq]; exact h)

/-! function 200: impl_ProgOk_1_1 -/
def Fimpl_ProgOk_1_1 (t0 t1 t2 : Value) (w : World) (R : VW) : Prop :=
  boxT 76 t0 w fun t3 w1 =>
  ldsT 2 t3 w1 fun t5 =>
  ldsT 1 t1 w1 fun t6 =>
  ldsT 3 t2 w1 fun t7 =>
  clT PR 201 [t5, t6, t7] w1 fun t8 w2 =>
  notT t8 fun t9 =>
  R t9 w2
def Fimpl_ProgOk_1_1.H : Hints := {}
theorem Fimpl_ProgOk_1_1.eq (t0 t1 t2 : Value) : trF PR CX Fimpl_ProgOk_1_1.H Tryz.f200 [t0, t1, t2] = Fimpl_ProgOk_1_1 t0 t1 t2 := by kernel_rfl
theorem Fimpl_ProgOk_1_1.cl {t0 t1 t2 : Value} {w : World} {R : VW} (h : Fimpl_ProgOk_1_1 t0 t1 t2 w R) : clT PR 200 [t0, t1, t2] w R := cl_of_tr (H := Fimpl_ProgOk_1_1.H) ctxOk Tryz.func200 rfl (by rw [Fimpl_ProgOk_1_1.eq]; exact h)

/-! function 201: impl_Op_ok -/
def Fimpl_Op_ok (t0 t1 t2 : Value) (w : World) (R : VW) : Prop :=
  boxT 76 t0 w fun t3 w1 =>
  boxT 42 t1 w1 fun t4 w2 =>
  boxT 87 t2 w2 fun t5 w3 =>
  fadT 0 t3 fun t10 =>
  ldT t10 w3 fun t11 =>
  clT PR 249 [t11] w3 fun t12 w4 =>
  extT t12 0 fun t13 =>
  extT t12 1 fun t14 =>
  allocT 289 #[(.string ByteArray.empty), (.int .i64 0), (.int .i64 0), (.slice none 0 0), .nilFunc] w4 fun t7 w5 =>
  stsT 5 t7 t13 w5 fun w6 =>
  notT t14 fun t16 =>
  condT t16
  (condT t14
  (fadT 1 t3 fun t24 =>
  ldT t24 w6 fun t25 =>
  binT .eql t25 (.int .i64 0) fun t26 =>
  R t26 w6)
  (R (.bool false) w6))
  (fadT 4 t7 fun t18 =>
  ldT t18 w6 fun t19 =>
  opT PR (do eqGuard .eql 287 (.tmp 19) (.const .nilFunc) t19 .nilFunc; binOp .eql 287 t19 .nilFunc) w6 fun t20 w7 =>
  condT t20
  (condT t14
  (fadT 1 t3 fun t24 =>
  ldT t24 w7 fun t25 =>
  binT .eql t25 (.int .i64 0) fun t26 =>
  R t26 w7)
  (R (.bool false) w7))
  (fadT 1 t3 fun t28 =>
  ldT t28 (w7.drew) fun t29 =>
  fadT 4 t7 fun t30 =>
  ldT t30 (w7.drew) fun t31 =>
  ldsT 1 t4 (w7.drew) fun t32 =>
  ldsT 3 t5 (w7.drew) fun t33 =>
  clvT PR CX t31 [t32, t33] (w7.drew) fun t34 w8 =>
  (ldT t28 w8 fun u => u = t29) ∧
  binT .sub t34 (.int .i64 1) fun t35 =>
  clT PR 147 [t29, (.int .i64 0), t35] w8 fun t36 w9 =>
  R t36 w9))
def Fimpl_Op_ok.H : Hints := {draw := fun i => match i with | 4 => { T := [0, 1, 0, 4, 0, 0, 60, 124, 255, 511] } | _ => {}}
theorem Fimpl_Op_ok.eq (t0 t1 t2 : Value) : trF PR CX Fimpl_Op_ok.H Tryz.f201 [t0, t1, t2] = Fimpl_Op_ok t0 t1 t2 := by kernel_rfl
theorem Fimpl_Op_ok.cl {t0 t1 t2 : Value} {w : World} {R : VW} (h : Fimpl_Op_ok t0 t1 t2 w R) : clT PR 201 [t0, t1, t2] w R := cl_of_tr (H := Fimpl_Op_ok.H) ctxOk Tryz.func201 rfl (by rw [Fimpl_Op_ok.eq]; exact h)

/-! function 203: impl_told_1 -/
def Fimpl_told_1 (t0 t1 : Value) (w : World) (R : VW) : Prop :=
  boxT 78 t0 w fun t2 w1 =>
  ldsT 2 t2 w1 fun t4 =>
  fadT 0 t1 fun t5 =>
  ldT t5 w1 fun t6 =>
  lenT t6 fun t7 =>
  clT PR 204 [t4, t7] w1 fun t8 w2 =>
  notT t8 fun t9 =>
  R t9 w2
def Fimpl_told_1.H : Hints := {}
theorem Fimpl_told_1.eq (t0 t1 : Value) : trF PR CX Fimpl_told_1.H Tryz.f203 [t0, t1] = Fimpl_told_1 t0 t1 := by kernel_rfl
theorem Fimpl_told_1.cl {t0 t1 : Value} {w : World} {R : VW} (h : Fimpl_told_1 t0 t1 w R) : clT PR 203 [t0, t1] w R := cl_of_tr (H := Fimpl_told_1.H) ctxOk Tryz.func203 rfl (by rw [Fimpl_told_1.eq]; exact h)

/-! function 204: impl_Val_ok -/
def Fimpl_Val_ok (t0 t1 : Value) (w : World) (R : VW) : Prop :=
  boxT 78 t0 w fun t2 w1 =>
  fadT 0 t2 fun t5 =>
  ldT t5 w1 fun t6 =>
  binT .eql t6 (.int .i64 0) fun t8 =>
  condT t8
  (fadT 1 t2 fun t9 =>
  ldT t9 w1 fun t10 =>
  binT .eql t10 (.int .i64 0) fun t11 =>
  R t11 w1)
  (binT .eql t6 (.int .i64 1) fun t13 =>
  condT t13
  (fadT 1 t2 fun t14 =>
  ldT t14 w1 fun t15 =>
  clT PR 147 [t15, (.int .i64 0), (.int .i64 999)] w1 fun t16 w2 =>
  R t16 w2)
  (binT .eql t6 (.int .i64 2) fun t18 =>
  condT t18
  (fadT 1 t2 fun t19 =>
  ldT t19 w1 fun t20 =>
  binT .sub t1 (.int .i64 1) fun t22 =>
  clT PR 147 [t20, (.int .i64 0), t22] w1 fun t23 w3 =>
  R t23 w3)
  (R (.bool false) w1)))
def Fimpl_Val_ok.H : Hints := {}
theorem Fimpl_Val_ok.eq (t0 t1 : Value) : trF PR CX Fimpl_Val_ok.H Tryz.f204 [t0, t1] = Fimpl_Val_ok t0 t1 := by kernel_rfl
theorem Fimpl_Val_ok.cl {t0 t1 : Value} {w : World} {R : VW} (h : Fimpl_Val_ok t0 t1 w R) : clT PR 204 [t0, t1] w R := cl_of_tr (H := Fimpl_Val_ok.H) ctxOk Tryz.func204 rfl (by rw [Fimpl_Val_ok.eq]; exact h)

/-! function 205: slices_ContainsFunc_Val -/
def Fslices_ContainsFunc_Val (t0 t1 : Value) (w : World) (R : VW) : Prop :=
  clT PR 251 [t0, t1] w fun t7 w1 =>
  binT .geq t7 (.int .i64 0) fun t8 =>
  R t8 w1
def Fslices_ContainsFunc_Val.H : Hints := {}
theorem Fslices_ContainsFunc_Val.eq (t0 t1 : Value) : trF PR CX Fslices_ContainsFunc_Val.H Tryz.f205 [t0, t1] = Fslices_ContainsFunc_Val t0 t1 := by kernel_rfl
theorem Fslices_ContainsFunc_Val.cl {t0 t1 : Value} {w : World} {R : VW} (h : Fslices_ContainsFunc_Val t0 t1 w R) : clT PR 205 [t0, t1] w R := cl_of_tr (H := Fslices_ContainsFunc_Val.H) ctxOk Tryz.func205 rfl (by rw [Fslices_ContainsFunc_Val.eq]; exact h)

/-! function 240: impl_valsOk -/
def Fimpl_valsOk (t0 t1 : Value) (w : World) (R : VW) : Prop :=
  boxT 3 t1 w fun t3 w1 =>
  clT PR 205 [t0, (.func (.func 272) #[] #[t3])] w1 fun t7 w2 =>
  notT t7 fun t8 =>
  R t8 w2
def Fimpl_valsOk.H : Hints := {}
theorem Fimpl_valsOk.eq (t0 t1 : Value) : trF PR CX Fimpl_valsOk.H Tryz.f240 [t0, t1] = Fimpl_valsOk t0 t1 := by kernel_rfl
theorem Fimpl_valsOk.cl {t0 t1 : Value} {w : World} {R : VW} (h : Fimpl_valsOk t0 t1 w R) : clT PR 240 [t0, t1] w R := cl_of_tr (H := Fimpl_valsOk.H) ctxOk Tryz.func240 rfl (by rw [Fimpl_valsOk.eq]; exact h)

/-! function 247: slices_IndexFunc_Method -/
def Fslices_IndexFunc_Method.l1 (x0 x1 x4 x7 x8 : Value) (w : World) (Kn Kb Kr : LW) : Prop := ∀ _ : Env,
  binT .lss x8 x7 fun t9 =>
  condT t9
  (ixaT 3 x0 x8 fun t14 =>
  ldsT 3 t14 w fun t15 =>
  clvT PR CX x1 [t15] w fun t16 w1 =>
  condT t16
  (Kr [x0, x1, x8, x7, x8] w1)
  (binT .add x8 (.int .i64 1) fun t18 =>
  Kn [x0, x1, x4, x7, t18] w1))
  (Kb [x0, x1, x4, x7, x8] w)
def Fslices_IndexFunc_Method.k2 (x0 x1 x4 x7 x8 : Value) (w : World) (R : VW) : Prop := ∀ _ : Env,
  R (.int .i64 (-1)) w
def Fslices_IndexFunc_Method.r3 (x0 x1 x4 x7 x8 : Value) (w : World) (R : VW) : Prop := ∀ _ : Env,
  R x4 w
def Fslices_IndexFunc_Method (t0 t1 : Value) (w : World) (R : VW) : Prop :=
  lenT t0 fun t7 =>
  loopT (fun s w Kn Kb Kr => Fslices_IndexFunc_Method.l1 (s.headD undef) (s.tail.headD undef) (s.tail.tail.headD undef) (s.tail.tail.tail.headD undef) (s.tail.tail.tail.tail.headD undef) w Kn Kb Kr) [t0, t1, (.int .i64 0), t7, (.int .i64 0)] w
  (fun s w => Fslices_IndexFunc_Method.k2 (s.headD undef) (s.tail.headD undef) (s.tail.tail.headD undef) (s.tail.tail.tail.headD undef) (s.tail.tail.tail.tail.headD undef) w R)
  (fun s w => Fslices_IndexFunc_Method.r3 (s.headD undef) (s.tail.headD undef) (s.tail.tail.headD undef) (s.tail.tail.tail.headD undef) (s.tail.tail.tail.tail.headD undef) w R)
def Fslices_IndexFunc_Method.H : Hints := {loop := fun i => match i with | 2 => some (0, [0, 1, 4, 7, 8]) | _ => none}
theorem Fslices_IndexFunc_Method.eq (t0 t1 : Value) : trF PR CX Fslices_IndexFunc_Method.H Tryz.f247 [t0, t1] = Fslices_IndexFunc_Method t0 t1 := by kernel_rfl
theorem Fslices_IndexFunc_Method.cl {t0 t1 : Value} {w : World} {R : VW} (h : Fslices_IndexFunc_Method t0 t1 w R) : clT PR 247 [t0, t1] w R := cl_of_tr (H := Fslices_IndexFunc_Method.H) ctxOk Tryz.func247 rfl (by rw [Fslices_IndexFunc_Method.eq]; exact h)

/-! function 248: slices_IndexFunc_Op -/
def Fslices_IndexFunc_Op.l1 (x0 x1 x4 x7 x8 : Value) (w : World) (Kn Kb Kr : LW) : Prop := ∀ _ : Env,
  binT .lss x8 x7 fun t9 =>
  condT t9
  (ixaT 2 x0 x8 fun t14 =>
  ldsT 2 t14 w fun t15 =>
  clvT PR CX x1 [t15] w fun t16 w1 =>
  condT t16
  (Kr [x0, x1, x8, x7, x8] w1)
  (binT .add x8 (.int .i64 1) fun t18 =>
  Kn [x0, x1, x4, x7, t18] w1))
  (Kb [x0, x1, x4, x7, x8] w)
def Fslices_IndexFunc_Op.k2 (x0 x1 x4 x7 x8 : Value) (w : World) (R : VW) : Prop := ∀ _ : Env,
  R (.int .i64 (-1)) w
def Fslices_IndexFunc_Op.r3 (x0 x1 x4 x7 x8 : Value) (w : World) (R : VW) : Prop := ∀ _ : Env,
  R x4 w
def Fslices_IndexFunc_Op (t0 t1 : Value) (w : World) (R : VW) : Prop :=
  lenT t0 fun t7 =>
  loopT (fun s w Kn Kb Kr => Fslices_IndexFunc_Op.l1 (s.headD undef) (s.tail.headD undef) (s.tail.tail.headD undef) (s.tail.tail.tail.headD undef) (s.tail.tail.tail.tail.headD undef) w Kn Kb Kr) [t0, t1, (.int .i64 0), t7, (.int .i64 0)] w
  (fun s w => Fslices_IndexFunc_Op.k2 (s.headD undef) (s.tail.headD undef) (s.tail.tail.headD undef) (s.tail.tail.tail.headD undef) (s.tail.tail.tail.tail.headD undef) w R)
  (fun s w => Fslices_IndexFunc_Op.r3 (s.headD undef) (s.tail.headD undef) (s.tail.tail.headD undef) (s.tail.tail.tail.headD undef) (s.tail.tail.tail.tail.headD undef) w R)
def Fslices_IndexFunc_Op.H : Hints := {loop := fun i => match i with | 2 => some (0, [0, 1, 4, 7, 8]) | _ => none}
theorem Fslices_IndexFunc_Op.eq (t0 t1 : Value) : trF PR CX Fslices_IndexFunc_Op.H Tryz.f248 [t0, t1] = Fslices_IndexFunc_Op t0 t1 := by kernel_rfl
theorem Fslices_IndexFunc_Op.cl {t0 t1 : Value} {w : World} {R : VW} (h : Fslices_IndexFunc_Op t0 t1 w R) : clT PR 248 [t0, t1] w R := cl_of_tr (H := Fslices_IndexFunc_Op.H) ctxOk Tryz.func248 rfl (by rw [Fslices_IndexFunc_Op.eq]; exact h)

/-! function 249: impl_mannerOf -/
def Fimpl_mannerOf (t0 : Value) (w : World) (R : VW) : Prop :=
  allocT 289 #[(.string ByteArray.empty), (.int .i64 0), (.int .i64 0), (.slice none 0 0), .nilFunc] w fun t2 w1 =>
  clT PR 147 [t0, (.int .i64 1), (.int .i64 18)] w1 fun t5 w2 =>
  notT t5 fun t6 =>
  condT t6
  (bldT #[(.string ByteArray.empty), (.int .i64 0), (.int .i64 0), (.slice none 0 0), .nilFunc] [] fun t7 =>
  stsT 5 t2 t7 w2 fun w3 =>
  ldsT 5 t2 w3 fun r4 =>
  R (.tuple #[r4, (.bool false)]) w3)
  (clT PR 265 [] w2 fun t8 w5 =>
  ixaT 5 t8 t0 fun t10 =>
  ldsT 5 t10 w5 fun t11 =>
  stsT 5 t2 t11 w5 fun w6 =>
  ldsT 5 t2 w6 fun r7 =>
  R (.tuple #[r7, (.bool true)]) w6)
def Fimpl_mannerOf.H : Hints := {}
theorem Fimpl_mannerOf.eq (t0 : Value) : trF PR CX Fimpl_mannerOf.H Tryz.f249 [t0] = Fimpl_mannerOf t0 := by kernel_rfl
theorem Fimpl_mannerOf.cl {t0 : Value} {w : World} {R : VW} (h : Fimpl_mannerOf t0 w R) : clT PR 249 [t0] w R := cl_of_tr (H := Fimpl_mannerOf.H) ctxOk Tryz.func249 rfl (by rw [Fimpl_mannerOf.eq]; exact h)

/-! function 251: slices_IndexFunc_Val -/
def Fslices_IndexFunc_Val.l1 (x0 x1 x4 x7 x8 : Value) (w : World) (Kn Kb Kr : LW) : Prop := ∀ _ : Env,
  binT .lss x8 x7 fun t9 =>
  condT t9
  (ixaT 2 x0 x8 fun t14 =>
  ldsT 2 t14 w fun t15 =>
  clvT PR CX x1 [t15] w fun t16 w1 =>
  condT t16
  (Kr [x0, x1, x8, x7, x8] w1)
  (binT .add x8 (.int .i64 1) fun t18 =>
  Kn [x0, x1, x4, x7, t18] w1))
  (Kb [x0, x1, x4, x7, x8] w)
def Fslices_IndexFunc_Val.k2 (x0 x1 x4 x7 x8 : Value) (w : World) (R : VW) : Prop := ∀ _ : Env,
  R (.int .i64 (-1)) w
def Fslices_IndexFunc_Val.r3 (x0 x1 x4 x7 x8 : Value) (w : World) (R : VW) : Prop := ∀ _ : Env,
  R x4 w
def Fslices_IndexFunc_Val (t0 t1 : Value) (w : World) (R : VW) : Prop :=
  lenT t0 fun t7 =>
  loopT (fun s w Kn Kb Kr => Fslices_IndexFunc_Val.l1 (s.headD undef) (s.tail.headD undef) (s.tail.tail.headD undef) (s.tail.tail.tail.headD undef) (s.tail.tail.tail.tail.headD undef) w Kn Kb Kr) [t0, t1, (.int .i64 0), t7, (.int .i64 0)] w
  (fun s w => Fslices_IndexFunc_Val.k2 (s.headD undef) (s.tail.headD undef) (s.tail.tail.headD undef) (s.tail.tail.tail.headD undef) (s.tail.tail.tail.tail.headD undef) w R)
  (fun s w => Fslices_IndexFunc_Val.r3 (s.headD undef) (s.tail.headD undef) (s.tail.tail.headD undef) (s.tail.tail.tail.headD undef) (s.tail.tail.tail.tail.headD undef) w R)
def Fslices_IndexFunc_Val.H : Hints := {loop := fun i => match i with | 2 => some (0, [0, 1, 4, 7, 8]) | _ => none}
theorem Fslices_IndexFunc_Val.eq (t0 t1 : Value) : trF PR CX Fslices_IndexFunc_Val.H Tryz.f251 [t0, t1] = Fslices_IndexFunc_Val t0 t1 := by kernel_rfl
theorem Fslices_IndexFunc_Val.cl {t0 t1 : Value} {w : World} {R : VW} (h : Fslices_IndexFunc_Val t0 t1 w R) : clT PR 251 [t0, t1] w R := cl_of_tr (H := Fslices_IndexFunc_Val.H) ctxOk Tryz.func251 rfl (by rw [Fslices_IndexFunc_Val.eq]; exact h)

/-! function 264: impl_OpTakes -/
def Fimpl_OpTakes (t0 t1 : Value) (w : World) (R : VW) : Prop :=
  boxT 42 t0 w fun t2 w1 =>
  boxT 76 t1 w1 fun t3 w2 =>
  fadT 0 t3 fun t9 =>
  ldT t9 w2 fun t10 =>
  clT PR 249 [t10] w2 fun t11 w3 =>
  extT t11 0 fun t12 =>
  extT t11 1 fun t13 =>
  allocT 289 #[(.string ByteArray.empty), (.int .i64 0), (.int .i64 0), (.slice none 0 0), .nilFunc] w3 fun t6 w4 =>
  stsT 5 t6 t12 w4 fun w5 =>
  notT t13 fun t16 =>
  condT t16
  (R (.tuple #[(.int .i64 0), (.int .i64 0)]) w5)
  (fadT 0 t3 fun t18 =>
  ldT t18 w5 fun t19 =>
  binT .neq t19 (.int .i64 9) fun t20 =>
  condT t20
  (fadT 1 t6 fun t21 =>
  ldT t21 (w5.drew) fun t22 =>
  fadT 2 t6 fun t23 =>
  ldT t23 (w5.drew) fun t24 =>
  R (.tuple #[t22, t24]) (w5.drew))
  (fadT 1 t3 fun t26 =>
  ldT t26 w5 fun t27 =>
  fadT 0 t2 fun t28 =>
  ldT t28 w5 fun t29 =>
  lenT t29 fun t30 =>
  binT .sub t30 (.int .i64 1) fun t31 =>
  clT PR 147 [t27, (.int .i64 0), t31] w5 fun t32 w6 =>
  notT t32 fun t33 =>
  condT t33
  (R (.tuple #[(.int .i64 0), (.int .i64 0)]) w6)
  (fadT 0 t2 fun t34 =>
  ldT t34 (w6.drew) fun t35 =>
  fadT 1 t3 fun t36 =>
  ldT t36 (w6.drew) fun t37 =>
  ixaT 3 t35 t37 fun t38 =>
  fadT 0 t38 fun t39 =>
  ldT t39 (w6.drew) fun t40 =>
  fadT 2 t6 fun t41 =>
  ldT t41 (w6.drew) fun t42 =>
  R (.tuple #[t40, t42]) (w6.drew))))
def Fimpl_OpTakes.H : Hints := {draw := fun i => match i with | 5 => { T := [0, 1, 0, 4, 3, 31] } | 8 => { T := [0, 1, 0, 4, 15, 31, 63, 0, 128, 127, 1023] } | _ => {}}
theorem Fimpl_OpTakes.eq (t0 t1 : Value) : trF PR CX Fimpl_OpTakes.H Tryz.f264 [t0, t1] = Fimpl_OpTakes t0 t1 := by kernel_rfl
theorem Fimpl_OpTakes.cl {t0 t1 : Value} {w : World} {R : VW} (h : Fimpl_OpTakes t0 t1 w R) : clT PR 264 [t0, t1] w R := cl_of_tr (H := Fimpl_OpTakes.H) ctxOk Tryz.func264 rfl (by rw [Fimpl_OpTakes.eq]; exact h)

/-! function 265: impl_manners -/
def Fimpl_manners (w : World) (R : VW) : Prop :=
  bslT 3 1 1 #[(.int .i64 0)] [(0, 1, (.int .i64 (-1)))] w fun t7 w1 =>
  bslT 3 1 1 #[(.int .i64 0)] [(0, 1, (.int .i64 2))] w1 fun t8 w2 =>
  bldT #[(.string ByteArray.empty), (.int .i64 0), (.int .i64 0), (.slice none 0 0), .nilFunc] [] fun t9 =>
  clvT PR CX (.func (.func 281) #[] #[]) [(.int .i64 100)] w2 fun t11 w3 =>
  bldT #[(.string ByteArray.empty), (.int .i64 0), (.int .i64 0), (.slice none 0 0), .nilFunc] [(0, 1, (.string ⟨#[110, 117, 109]⟩)), (1, 1, (.int .i64 0)), (2, 1, (.int .i64 1)), (3, 1, (.slice none 0 0)), (4, 1, t11)] fun t12 =>
  bldT #[(.string ByteArray.empty), (.int .i64 0), (.int .i64 0), (.slice none 0 0), .nilFunc] [(0, 1, (.string ⟨#[116, 101, 109, 112]⟩)), (1, 1, (.int .i64 0)), (2, 1, (.int .i64 1)), (3, 1, (.slice none 0 0)), (4, 1, (.func (.func 283) #[] #[]))] fun t14 =>
  bldT #[(.string ByteArray.empty), (.int .i64 0), (.int .i64 0), (.slice none 0 0), .nilFunc] [(0, 1, (.string ⟨#[115, 101, 116]⟩)), (1, 1, (.int .i64 1)), (2, 1, (.int .i64 0)), (3, 1, t7), (4, 1, (.func (.func 283) #[] #[]))] fun t17 =>
  bldT #[(.string ByteArray.empty), (.int .i64 0), (.int .i64 0), (.slice none 0 0), .nilFunc] [(0, 1, (.string ⟨#[100, 114, 111, 112]⟩)), (1, 1, (.int .i64 1)), (2, 1, (.int .i64 0)), (3, 1, t7), (4, 1, .nilFunc)] fun t19 =>
  bslT 3 2 1 #[(.int .i64 0)] [(0, 1, (.int .i64 1)), (1, 1, (.int .i64 1))] w3 fun t20 w4 =>
  bldT #[(.string ByteArray.empty), (.int .i64 0), (.int .i64 0), (.slice none 0 0), .nilFunc] [(0, 1, (.string ⟨#[97, 100, 100]⟩)), (1, 1, (.int .i64 2)), (2, 1, (.int .i64 1)), (3, 1, t20), (4, 1, .nilFunc)] fun t21 =>
  bslT 3 2 1 #[(.int .i64 0)] [(0, 1, (.int .i64 (-1))), (1, 1, (.int .i64 (-1)))] w4 fun t22 w5 =>
  bldT #[(.string ByteArray.empty), (.int .i64 0), (.int .i64 0), (.slice none 0 0), .nilFunc] [(0, 1, (.string ⟨#[115, 97, 109, 101]⟩)), (1, 1, (.int .i64 2)), (2, 1, (.int .i64 1)), (3, 1, t22), (4, 1, .nilFunc)] fun t23 =>
  bldT #[(.string ByteArray.empty), (.int .i64 0), (.int .i64 0), (.slice none 0 0), .nilFunc] [(0, 1, (.string ⟨#[106, 117, 109, 112]⟩)), (1, 1, (.int .i64 0)), (2, 1, (.int .i64 0)), (3, 1, (.slice none 0 0)), (4, 1, (.func (.func 284) #[] #[]))] fun t25 =>
  bldT #[(.string ByteArray.empty), (.int .i64 0), (.int .i64 0), (.slice none 0 0), .nilFunc] [(0, 1, (.string ⟨#[122, 101, 114, 111]⟩)), (1, 1, (.int .i64 1)), (2, 1, (.int .i64 0)), (3, 1, t7), (4, 1, (.func (.func 284) #[] #[]))] fun t28 =>
  bldT #[(.string ByteArray.empty), (.int .i64 0), (.int .i64 0), (.slice none 0 0), .nilFunc] [(0, 1, (.string ⟨#[99, 97, 108, 108]⟩)), (1, 1, (.int .i64 0)), (2, 1, (.int .i64 1)), (3, 1, (.slice none 0 0)), (4, 1, (.func (.func 285) #[] #[]))] fun t30 =>
  bldT #[(.string ByteArray.empty), (.int .i64 0), (.int .i64 0), (.slice none 0 0), .nilFunc] [(0, 1, (.string ⟨#[114, 101, 116]⟩)), (1, 1, (.int .i64 1)), (2, 1, (.int .i64 0)), (3, 1, t7), (4, 1, .nilFunc)] fun t32 =>
  bldT #[(.string ByteArray.empty), (.int .i64 0), (.int .i64 0), (.slice none 0 0), .nilFunc] [(0, 1, (.string ⟨#[104, 101, 114, 101]⟩)), (1, 1, (.int .i64 0)), (2, 1, (.int .i64 1)), (3, 1, (.slice none 0 0)), (4, 1, .nilFunc)] fun t33 =>
  bldT #[(.string ByteArray.empty), (.int .i64 0), (.int .i64 0), (.slice none 0 0), .nilFunc] [(0, 1, (.string ⟨#[115, 101, 110, 100, 101, 114]⟩)), (1, 1, (.int .i64 1)), (2, 1, (.int .i64 1)), (3, 1, t8), (4, 1, .nilFunc)] fun t35 =>
  clvT PR CX (.func (.func 281) #[] #[]) [(.int .i64 4)] w5 fun t38 w6 =>
  bldT #[(.string ByteArray.empty), (.int .i64 0), (.int .i64 0), (.slice none 0 0), .nilFunc] [(0, 1, (.string ⟨#[112, 101, 101, 107]⟩)), (1, 1, (.int .i64 1)), (2, 1, (.int .i64 1)), (3, 1, t8), (4, 1, t38)] fun t39 =>
  bslT 3 2 1 #[(.int .i64 0)] [(0, 1, (.int .i64 2)), (1, 1, (.int .i64 (-1)))] w6 fun t40 w7 =>
  clvT PR CX (.func (.func 281) #[] #[]) [(.int .i64 4)] w7 fun t42 w8 =>
  bldT #[(.string ByteArray.empty), (.int .i64 0), (.int .i64 0), (.slice none 0 0), .nilFunc] [(0, 1, (.string ⟨#[112, 111, 107, 101]⟩)), (1, 1, (.int .i64 2)), (2, 1, (.int .i64 0)), (3, 1, t40), (4, 1, t42)] fun t43 =>
  bslT 3 2 1 #[(.int .i64 0)] [(0, 1, (.int .i64 2)), (1, 1, (.int .i64 (-1)))] w8 fun t44 w9 =>
  bldT #[(.string ByteArray.empty), (.int .i64 0), (.int .i64 0), (.slice none 0 0), .nilFunc] [(0, 1, (.string ⟨#[98, 97, 99, 107]⟩)), (1, 1, (.int .i64 2)), (2, 1, (.int .i64 1)), (3, 1, t44), (4, 1, .nilFunc)] fun t45 =>
  bldT #[(.string ByteArray.empty), (.int .i64 0), (.int .i64 0), (.slice none 0 0), .nilFunc] [(0, 1, (.string ⟨#[115, 97, 121]⟩)), (1, 1, (.int .i64 1)), (2, 1, (.int .i64 0)), (3, 1, t7), (4, 1, .nilFunc)] fun t47 =>
  bldT #[(.string ByteArray.empty), (.int .i64 0), (.int .i64 0), (.slice none 0 0), .nilFunc] [(0, 1, (.string ⟨#[100, 101, 97, 100]⟩)), (1, 1, (.int .i64 1)), (2, 1, (.int .i64 1)), (3, 1, t8), (4, 1, .nilFunc)] fun t49 =>
  bldT #[(.string ByteArray.empty), (.int .i64 0), (.int .i64 0), (.slice none 0 0), .nilFunc] [(0, 1, (.string ⟨#[119, 104, 101, 114, 101]⟩)), (1, 1, (.int .i64 1)), (2, 1, (.int .i64 1)), (3, 1, t8), (4, 1, .nilFunc)] fun t51 =>
  bslT 289 19 5 #[(.string ByteArray.empty), (.int .i64 0), (.int .i64 0), (.slice none 0 0), .nilFunc] [(0, 5, t9), (5, 5, t12), (10, 5, t14), (15, 5, t17), (20, 5, t19), (25, 5, t21), (30, 5, t23), (35, 5, t25), (40, 5, t28), (45, 5, t30), (50, 5, t32), (55, 5, t33), (60, 5, t35), (65, 5, t39), (70, 5, t43), (75, 5, t45), (80, 5, t47), (85, 5, t49), (90, 5, t51)] w9 fun t52 w10 =>
  R t52 w10
def Fimpl_manners.H : Hints := {}
theorem Fimpl_manners.eq : trF PR CX Fimpl_manners.H Tryz.f265 [] = Fimpl_manners := by kernel_rfl
theorem Fimpl_manners.cl {w : World} {R : VW} (h : Fimpl_manners w R) : clT PR 265 [] w R := cl_of_tr (H := Fimpl_manners.H) ctxOk Tryz.func265 rfl (by rw [Fimpl_manners.eq]; exact h)

/-! function 272: impl_valsOk_1 -/
def Fimpl_valsOk_1 (t0 t1 : Value) (w : World) (R : VW) : Prop :=
  boxT 78 t0 w fun t2 w1 =>
  ldsT 2 t2 w1 fun t4 =>
  ldT t1 w1 fun t5 =>
  clT PR 204 [t4, t5] w1 fun t6 w2 =>
  notT t6 fun t7 =>
  R t7 w2
def Fimpl_valsOk_1.H : Hints := {}
theorem Fimpl_valsOk_1.eq (t0 t1 : Value) : trF PR CX Fimpl_valsOk_1.H Tryz.f272 [t0, t1] = Fimpl_valsOk_1 t0 t1 := by kernel_rfl
theorem Fimpl_valsOk_1.cl {t0 t1 : Value} {w : World} {R : VW} (h : Fimpl_valsOk_1 t0 t1 w R) : clT PR 272 [t0, t1] w R := cl_of_tr (H := Fimpl_valsOk_1.H) ctxOk Tryz.func272 rfl (by rw [Fimpl_valsOk_1.eq]; exact h)

/-! function 281: impl_manners_1 -/
def Fimpl_manners_1 (t0 : Value) (w : World) (R : VW) : Prop :=
  boxT 3 t0 w fun t1 w1 =>
  R (.func (.func 282) #[] #[t1]) w1
def Fimpl_manners_1.H : Hints := {}
theorem Fimpl_manners_1.eq (t0 : Value) : trF PR CX Fimpl_manners_1.H Tryz.f281 [t0] = Fimpl_manners_1 t0 := by kernel_rfl
theorem Fimpl_manners_1.cl {t0 : Value} {w : World} {R : VW} (h : Fimpl_manners_1 t0 w R) : clT PR 281 [t0] w R := cl_of_tr (H := Fimpl_manners_1.H) ctxOk Tryz.func281 rfl (by rw [Fimpl_manners_1.eq]; exact h)

/-! function 282: impl_manners_1_1 -/
def Fimpl_manners_1_1 (t0 t1 t2 : Value) (w : World) (R : VW) : Prop :=
  boxT 42 t0 w fun t3 w1 =>
  boxT 87 t1 w1 fun t4 w2 =>
  ldT t2 w2 fun t6 =>
  R t6 w2
def Fimpl_manners_1_1.H : Hints := {}
theorem Fimpl_manners_1_1.eq (t0 t1 t2 : Value) : trF PR CX Fimpl_manners_1_1.H Tryz.f282 [t0, t1, t2] = Fimpl_manners_1_1 t0 t1 t2 := by kernel_rfl
theorem Fimpl_manners_1_1.cl {t0 t1 t2 : Value} {w : World} {R : VW} (h : Fimpl_manners_1_1 t0 t1 t2 w R) : clT PR 282 [t0, t1, t2] w R := cl_of_tr (H := Fimpl_manners_1_1.H) ctxOk Tryz.func282 rfl (by rw [Fimpl_manners_1_1.eq]; exact h)

/-! function 283: impl_manners_2 -/
def Fimpl_manners_2 (t0 t1 : Value) (w : World) (R : VW) : Prop :=
  boxT 42 t0 w fun t2 w1 =>
  boxT 87 t1 w1 fun t3 w2 =>
  fadT 1 t3 fun t5 =>
  ldT t5 w2 fun t6 =>
  R t6 w2
def Fimpl_manners_2.H : Hints := {}
theorem Fimpl_manners_2.eq (t0 t1 : Value) : trF PR CX Fimpl_manners_2.H Tryz.f283 [t0, t1] = Fimpl_manners_2 t0 t1 := by kernel_rfl
theorem Fimpl_manners_2.cl {t0 t1 : Value} {w : World} {R : VW} (h : Fimpl_manners_2 t0 t1 w R) : clT PR 283 [t0, t1] w R := cl_of_tr (H := Fimpl_manners_2.H) ctxOk Tryz.func283 rfl (by rw [Fimpl_manners_2.eq]; exact h)

/-! function 284: impl_manners_3 -/
def Fimpl_manners_3 (t0 t1 : Value) (w : World) (R : VW) : Prop :=
  boxT 42 t0 w fun t2 w1 =>
  boxT 87 t1 w1 fun t3 w2 =>
  fadT 2 t3 fun t5 =>
  ldT t5 w2 fun t6 =>
  lenT t6 fun t7 =>
  R t7 w2
def Fimpl_manners_3.H : Hints := {}
theorem Fimpl_manners_3.eq (t0 t1 : Value) : trF PR CX Fimpl_manners_3.H Tryz.f284 [t0, t1] = Fimpl_manners_3 t0 t1 := by kernel_rfl
theorem Fimpl_manners_3.cl {t0 t1 : Value} {w : World} {R : VW} (h : Fimpl_manners_3 t0 t1 w R) : clT PR 284 [t0, t1] w R := cl_of_tr (H := Fimpl_manners_3.H) ctxOk Tryz.func284 rfl (by rw [Fimpl_manners_3.eq]; exact h)

/-! function 285: impl_manners_4 -/
def Fimpl_manners_4 (t0 t1 : Value) (w : World) (R : VW) : Prop :=
  boxT 42 t0 w fun t2 w1 =>
  boxT 87 t1 w1 fun t3 w2 =>
  fadT 0 t2 fun t5 =>
  ldT t5 w2 fun t6 =>
  lenT t6 fun t7 =>
  R t7 w2
def Fimpl_manners_4.H : Hints := {}
theorem Fimpl_manners_4.eq (t0 t1 : Value) : trF PR CX Fimpl_manners_4.H Tryz.f285 [t0, t1] = Fimpl_manners_4 t0 t1 := by kernel_rfl
theorem Fimpl_manners_4.cl {t0 t1 : Value} {w : World} {R : VW} (h : Fimpl_manners_4 t0 t1 w R) : clT PR 285 [t0, t1] w R := cl_of_tr (H := Fimpl_manners_4.H) ctxOk Tryz.func285 rfl (by rw [Fimpl_manners_4.eq]; exact h)
end Go.PT
