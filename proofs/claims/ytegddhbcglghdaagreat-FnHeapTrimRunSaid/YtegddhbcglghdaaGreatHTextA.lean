/- The reflected texts of functions of the program, and that a call keeps what its text says. -/
import Derived.Test.YtegddhbcglghdaaGreatCtx
set_option linter.unusedVariables false
set_option maxRecDepth 100000
namespace Go.PT
open Go.Proofs
/-! function 66: spec_HeapOk -/
def Fspec_HeapOk.l1 (x2 x3 x4 x5 x6 x7 : Value) (w : World) (Kn Kb Kr : LW) : Prop := ∀ _ : Env,
  binT .lss x7 x5 fun t58 =>
  condT t58
  (ldsT 1 x2 (w.drew) fun t61 =>
  fadT 0 x3 fun t62 =>
  ldT t62 (w.drew) fun t63 =>
  ixaT 6 t63 x7 fun t65 =>
  ldsT 6 t65 (w.drew) fun t66 =>
  clT PR 152 [t61, t66, x5] (w.drew) fun t68 w9 =>
  notT t68 fun t69 =>
  condT t69
  (Kr [x2, x3, (.bool false), x5, x6, x7] w9)
  (fadT 0 x3 fun t70 =>
  ldT t70 w9 fun t71 =>
  ixaT 6 t71 x7 fun t73 =>
  fadT 5 t73 fun t74 =>
  ldT t74 w9 fun t75 =>
  notT t75 fun t76 =>
  condT t76
  (binT .add x6 (.int .i64 1) fun t78 =>
  binT .add x7 (.int .i64 1) fun t60 =>
  Kn [x2, x3, x4, x5, t78, t60] w9)
  (binT .add x7 (.int .i64 1) fun t60 =>
  Kn [x2, x3, x4, x5, x6, t60] w9)))
  (Kb [x2, x3, x4, x5, x6, x7] w)
def Fspec_HeapOk.k2 (x2 x3 x4 x5 x6 x7 : Value) (w : World) (R : VW) : Prop := ∀ _ : Env,
  fadT 1 x3 fun t79 =>
  ldT t79 w fun t80 =>
  binT .lss t80 (.int .i64 0) fun t81 =>
  condT t81
  (ldsT 5 x3 w fun t93 =>
  clT PR 153 [t93] w fun t94 w10 =>
  lenT t94 fun t95 =>
  binT .eql t95 x6 fun t97 =>
  condT t97
  (ldsT 5 x3 w10 fun t100 =>
  clT PR 154 [t100] w10 fun t101 w11 =>
  R t101 w11)
  (R (.bool false) w10))
  (fadT 0 x3 fun t83 =>
  ldT t83 w fun t84 =>
  fadT 1 x3 fun t85 =>
  ldT t85 w fun t86 =>
  ixaT 6 t84 t86 fun t87 =>
  fadT 5 t87 fun t88 =>
  ldT t88 w fun t89 =>
  notT t89 fun t90 =>
  condT t90
  (ldsT 5 x3 w fun t93 =>
  clT PR 153 [t93] w fun t94 w12 =>
  lenT t94 fun t95 =>
  binT .eql t95 x6 fun t97 =>
  condT t97
  (ldsT 5 x3 w12 fun t100 =>
  clT PR 154 [t100] w12 fun t101 w13 =>
  R t101 w13)
  (R (.bool false) w12))
  (R (.bool false) w))
def Fspec_HeapOk.r3 (x2 x3 x4 x5 x6 x7 : Value) (w : World) (R : VW) : Prop := ∀ _ : Env,
  R x4 w
def Fspec_HeapOk (t0 t1 : Value) (w : World) (R : VW) : Prop :=
  boxT 42 t0 w fun t2 w1 =>
  boxT 57 t1 w1 fun t3 w2 =>
  fadT 0 t3 fun t8 =>
  ldT t8 w2 fun t9 =>
  lenT t9 fun t10 =>
  ldsT 1 t2 w2 fun t11 =>
  clT PR 149 [t11] w2 fun t12 w3 =>
  notT t12 fun t13 =>
  condT t13
  (R (.bool false) w3)
  (fadT 1 t3 fun t15 =>
  ldT t15 w3 fun t16 =>
  binT .sub t10 (.int .i64 1) fun t18 =>
  clT PR 150 [t16, (.int .i64 (-1)), t18] w3 fun t19 w4 =>
  notT t19 fun t20 =>
  condT t20
  (R (.bool false) w4)
  (fadT 2 t3 fun t23 =>
  ldT t23 w4 fun t24 =>
  clT PR 150 [t24, (.int .i64 1), (.int .i64 30)] w4 fun t25 w5 =>
  notT t25 fun t26 =>
  condT t26
  (R (.bool false) w5)
  (fadT 2 t3 fun t30 =>
  ldT t30 w5 fun t31 =>
  binT .gtr t10 t31 fun t32 =>
  condT t32
  (R (.bool false) w5)
  (fadT 4 t3 fun t35 =>
  ldT t35 w5 fun t36 =>
  clT PR 150 [t36, (.int .i64 0), (.int .i64 3)] w5 fun t37 w6 =>
  notT t37 fun t38 =>
  condT t38
  (R (.bool false) w6)
  (ldsT 1 t2 w6 fun t41 =>
  fadT 3 t3 fun t42 =>
  ldT t42 w6 fun t43 =>
  clT PR 151 [t41, t43] w6 fun t44 w7 =>
  notT t44 fun t45 =>
  condT t45
  (R (.bool false) w7)
  (fadT 4 t3 fun t48 =>
  ldT t48 w7 fun t49 =>
  binT .eql t49 (.int .i64 1) fun t50 =>
  fadT 1 t3 fun t51 =>
  ldT t51 w7 fun t52 =>
  binT .lss t52 (.int .i64 0) fun t53 =>
  opT PR (do eqGuard .neq 4 (.tmp 50) (.tmp 53) t50 t53; binOp .neq 4 t50 t53) w7 fun t54 w8 =>
  condT t54
  (R (.bool false) w8)
  (loopT (fun s w Kn Kb Kr => Fspec_HeapOk.l1 (s.headD undef) (s.tail.headD undef) (s.tail.tail.headD undef) (s.tail.tail.tail.headD undef) (s.tail.tail.tail.tail.headD undef) (s.tail.tail.tail.tail.tail.headD undef) w Kn Kb Kr) [t2, t3, (.bool false), t10, (.int .i64 0), (.int .i64 0)] w8
  (fun s w => Fspec_HeapOk.k2 (s.headD undef) (s.tail.headD undef) (s.tail.tail.headD undef) (s.tail.tail.tail.headD undef) (s.tail.tail.tail.tail.headD undef) (s.tail.tail.tail.tail.tail.headD undef) w R)
  (fun s w => Fspec_HeapOk.r3 (s.headD undef) (s.tail.headD undef) (s.tail.tail.headD undef) (s.tail.tail.tail.headD undef) (s.tail.tail.tail.tail.headD undef) (s.tail.tail.tail.tail.tail.headD undef) w R))))))))
def Fspec_HeapOk.H : Hints := {draw := fun i => match i with | 8 => { T := [0, 0, 2, 0, 14, 30, 0, 127, 255] } | _ => {}, loop := fun i => match i with | 6 => some (0, [2, 3, 4, 5, 6, 7]) | _ => none}
theorem Fspec_HeapOk.eq (t0 t1 : Value) : trF PR CX Fspec_HeapOk.H Tryz.f66 [t0, t1] = Fspec_HeapOk t0 t1 := by kernel_rfl
theorem Fspec_HeapOk.cl {t0 t1 : Value} {w : World} {R : VW} (h : Fspec_HeapOk t0 t1 w R) : clT PR 66 [t0, t1] w R := cl_of_tr (H := Fspec_HeapOk.H) ctxOk Tryz.func66 rfl (by rw [Fspec_HeapOk.eq]; exact h)

/-! function 129: spec_l6Open -/
def Fspec_l6Open (t0 : Value) (w : World) (R : VW) : Prop :=
  lenT t0 fun t4 =>
  binT .gtr t4 (.int .i64 2000) fun t5 =>
  condT t5
  (opT PR (Instr.sliceAt 62 t0 none (some (.int .i64 2000)) none) w fun t7 w1 =>
  bldT #[(.slice none 0 0), (.int .i64 0)] [(0, 1, t7)] fun t9 =>
  boxT 226 t9 w1 fun t10 w2 =>
  R t10 w2)
  (bldT #[(.slice none 0 0), (.int .i64 0)] [(0, 1, t0)] fun t9 =>
  boxT 226 t9 w fun t10 w3 =>
  R t10 w3)
def Fspec_l6Open.H : Hints := {}
theorem Fspec_l6Open.eq (t0 : Value) : trF PR CX Fspec_l6Open.H Tryz.f129 [t0] = Fspec_l6Open t0 := by kernel_rfl
theorem Fspec_l6Open.cl {t0 : Value} {w : World} {R : VW} (h : Fspec_l6Open t0 w R) : clT PR 129 [t0] w R := cl_of_tr (H := Fspec_l6Open.H) ctxOk Tryz.func129 rfl (by rw [Fspec_l6Open.eq]; exact h)

/-! function 147: impl_in -/
def Fimpl_in (t0 t1 t2 : Value) (w : World) (R : VW) : Prop :=
  binT .geq t0 t1 fun t9 =>
  condT t9
  (binT .leq t0 t2 fun t13 =>
  R t13 w)
  (R (.bool false) w)
def Fimpl_in.H : Hints := {}
theorem Fimpl_in.eq (t0 t1 t2 : Value) : trF PR CX Fimpl_in.H Tryz.f147 [t0, t1, t2] = Fimpl_in t0 t1 t2 := by kernel_rfl
theorem Fimpl_in.cl {t0 t1 t2 : Value} {w : World} {R : VW} (h : Fimpl_in t0 t1 t2 w R) : clT PR 147 [t0, t1, t2] w R := cl_of_tr (H := Fimpl_in.H) ctxOk Tryz.func147 rfl (by rw [Fimpl_in.eq]; exact h)

/-! function 149: spec_ProgOk -/
def Fspec_ProgOk.l1 (x1 x2 x3 : Value) (w : World) (Kn Kb Kr : LW) : Prop := ∀ _ : Env,
  fadT 0 x1 fun t18 =>
  ldT t18 w fun t19 =>
  lenT t19 fun t20 =>
  binT .lss x3 t20 fun t21 =>
  condT t21
  (ldsT 1 x1 (w.drew) fun t24 =>
  fadT 0 x1 fun t25 =>
  ldT t25 (w.drew) fun t26 =>
  ixaT 3 t26 x3 fun t28 =>
  ldsT 3 t28 (w.drew) fun t29 =>
  clT PR 212 [t24, t29] (w.drew) fun t30 w3 =>
  notT t30 fun t31 =>
  condT t31
  (Kr [x1, (.bool false), x3] w3)
  (binT .add x3 (.int .i64 1) fun t23 =>
  Kn [x1, x2, t23] w3))
  (Kb [x1, x2, x3] w)
def Fspec_ProgOk.k2 (x1 x2 x3 : Value) (w : World) (R : VW) : Prop := ∀ _ : Env,
  R (.bool true) w
def Fspec_ProgOk.r3 (x1 x2 x3 : Value) (w : World) (R : VW) : Prop := ∀ _ : Env,
  R x2 w
def Fspec_ProgOk (t0 : Value) (w : World) (R : VW) : Prop :=
  boxT 42 t0 w fun t1 w1 =>
  fadT 0 t1 fun t4 =>
  ldT t4 w1 fun t5 =>
  lenT t5 fun t6 =>
  clT PR 150 [t6, (.int .i64 1), (.int .i64 4)] w1 fun t7 w2 =>
  notT t7 fun t8 =>
  condT t8
  (R (.bool false) w2)
  (fadT 0 t1 fun t10 =>
  ldT t10 w2 fun t11 =>
  ixaT 3 t11 (.int .i64 0) fun t12 =>
  fadT 0 t12 fun t13 =>
  ldT t13 w2 fun t14 =>
  binT .neq t14 (.int .i64 0) fun t15 =>
  condT t15
  (R (.bool false) w2)
  (loopT (fun s w Kn Kb Kr => Fspec_ProgOk.l1 (s.headD undef) (s.tail.headD undef) (s.tail.tail.headD undef) w Kn Kb Kr) [t1, (.bool false), (.int .i64 0)] w2
  (fun s w => Fspec_ProgOk.k2 (s.headD undef) (s.tail.headD undef) (s.tail.tail.headD undef) w R)
  (fun s w => Fspec_ProgOk.r3 (s.headD undef) (s.tail.headD undef) (s.tail.tail.headD undef) w R)))
def Fspec_ProgOk.H : Hints := {draw := fun i => match i with | 6 => { T := [0, 0, 2, 0, 14, 30, 63, 127] } | _ => {}, loop := fun i => match i with | 4 => some (0, [1, 2, 3]) | _ => none}
theorem Fspec_ProgOk.eq (t0 : Value) : trF PR CX Fspec_ProgOk.H Tryz.f149 [t0] = Fspec_ProgOk t0 := by kernel_rfl
theorem Fspec_ProgOk.cl {t0 : Value} {w : World} {R : VW} (h : Fspec_ProgOk t0 w R) : clT PR 149 [t0] w R := cl_of_tr (H := Fspec_ProgOk.H) ctxOk Tryz.func149 rfl (by rw [Fspec_ProgOk.eq]; exact h)

/-! function 150: spec_l6In -/
def Fspec_l6In (t0 t1 t2 : Value) (w : World) (R : VW) : Prop :=
  binT .geq t0 t1 fun t9 =>
  condT t9
  (binT .leq t0 t2 fun t13 =>
  R t13 w)
  (R (.bool false) w)
def Fspec_l6In.H : Hints := {}
theorem Fspec_l6In.eq (t0 t1 t2 : Value) : trF PR CX Fspec_l6In.H Tryz.f150 [t0, t1, t2] = Fspec_l6In t0 t1 t2 := by kernel_rfl
theorem Fspec_l6In.cl {t0 t1 t2 : Value} {w : World} {R : VW} (h : Fspec_l6In t0 t1 t2 w R) : clT PR 150 [t0, t1, t2] w R := cl_of_tr (H := Fspec_l6In.H) ctxOk Tryz.func150 rfl (by rw [Fspec_l6In.eq]; exact h)

/-! function 151: spec_l11Said -/
def Fspec_l11Said.l1 (x1 x2 x4 x5 : Value) (w : World) (Kn Kb Kr : LW) : Prop := ∀ _ : Env,
  lenT x1 fun t9 =>
  binT .lss x5 t9 fun t10 =>
  condT t10
  (ixaT 2 x1 x5 fun t15 =>
  ldsT 2 t15 w fun t16 =>
  allocT 78 #[(.int .i64 0), (.int .i64 0)] w fun t6 w2 =>
  stsT 2 t6 t16 w2 fun w3 =>
  fadT 0 t6 fun t17 =>
  ldT t17 w3 fun t18 =>
  binT .eql t18 (.int .i64 2) fun t19 =>
  condT t19
  (fadT 1 t6 fun t21 =>
  ldT t21 w3 fun t22 =>
  fadT 0 x2 fun t23 =>
  ldT t23 w3 fun t24 =>
  lenT t24 fun t25 =>
  binT .sub t25 (.int .i64 1) fun t26 =>
  clT PR 150 [t22, (.int .i64 0), t26] w3 fun t27 w4 =>
  notT t27 fun t28 =>
  condT t28
  (Kr [x1, x2, (.bool false), x5] w4)
  (fadT 0 t6 fun t31 =>
  ldT t31 w4 fun t32 =>
  binT .neq t32 (.int .i64 2) fun t33 =>
  condT t33
  (ldsT 2 t6 w4 fun t35 =>
  clT PR 213 [t35, (.int .i64 0)] w4 fun t36 w5 =>
  notT t36 fun t37 =>
  condT t37
  (Kr [x1, x2, (.bool false), x5] w5)
  (binT .add x5 (.int .i64 1) fun t12 =>
  Kn [x1, x2, x4, t12] w5))
  (binT .add x5 (.int .i64 1) fun t12 =>
  Kn [x1, x2, x4, t12] w4)))
  (fadT 0 t6 fun t31 =>
  ldT t31 w3 fun t32 =>
  binT .neq t32 (.int .i64 2) fun t33 =>
  condT t33
  (ldsT 2 t6 w3 fun t35 =>
  clT PR 213 [t35, (.int .i64 0)] w3 fun t36 w6 =>
  notT t36 fun t37 =>
  condT t37
  (Kr [x1, x2, (.bool false), x5] w6)
  (binT .add x5 (.int .i64 1) fun t12 =>
  Kn [x1, x2, x4, t12] w6))
  (binT .add x5 (.int .i64 1) fun t12 =>
  Kn [x1, x2, x4, t12] w3)))
  (Kb [x1, x2, x4, x5] w)
def Fspec_l11Said.k2 (x1 x2 x4 x5 : Value) (w : World) (R : VW) : Prop := ∀ _ : Env,
  R (.bool true) w
def Fspec_l11Said.r3 (x1 x2 x4 x5 : Value) (w : World) (R : VW) : Prop := ∀ _ : Env,
  R x4 w
def Fspec_l11Said (t0 t1 : Value) (w : World) (R : VW) : Prop :=
  boxT 42 t0 w fun t2 w1 =>
  loopT (fun s w Kn Kb Kr => Fspec_l11Said.l1 (s.headD undef) (s.tail.headD undef) (s.tail.tail.headD undef) (s.tail.tail.tail.headD undef) w Kn Kb Kr) [t1, t2, (.bool false), (.int .i64 0)] w1
  (fun s w => Fspec_l11Said.k2 (s.headD undef) (s.tail.headD undef) (s.tail.tail.headD undef) (s.tail.tail.tail.headD undef) w R)
  (fun s w => Fspec_l11Said.r3 (s.headD undef) (s.tail.headD undef) (s.tail.tail.headD undef) (s.tail.tail.tail.headD undef) w R)
def Fspec_l11Said.H : Hints := {loop := fun i => match i with | 2 => some (0, [1, 2, 4, 5]) | _ => none}
theorem Fspec_l11Said.eq (t0 t1 : Value) : trF PR CX Fspec_l11Said.H Tryz.f151 [t0, t1] = Fspec_l11Said t0 t1 := by kernel_rfl
theorem Fspec_l11Said.cl {t0 t1 : Value} {w : World} {R : VW} (h : Fspec_l11Said t0 t1 w R) : clT PR 151 [t0, t1] w R := cl_of_tr (H := Fspec_l11Said.H) ctxOk Tryz.func151 rfl (by rw [Fspec_l11Said.eq]; exact h)

/-! function 152: spec_l11Form -/
def Fspec_l11Form (t0 t1 t2 : Value) (w : World) (R : VW) : Prop :=
  boxT 42 t0 w fun t3 w1 =>
  boxT 89 t1 w1 fun t4 w2 =>
  fadT 0 t4 fun t7 =>
  ldT t7 (w2.drew) fun t8 =>
  fadT 0 t3 fun t9 =>
  ldT t9 (w2.drew) fun t10 =>
  lenT t10 fun t11 =>
  binT .sub t11 (.int .i64 1) fun t12 =>
  clT PR 150 [t8, (.int .i64 0), t12] (w2.drew) fun t13 w3 =>
  notT t13 fun t14 =>
  condT t14
  (R (.bool false) w3)
  (fadT 1 t4 fun t16 =>
  ldT t16 w3 fun t17 =>
  fadT 0 t3 fun t18 =>
  ldT t18 w3 fun t19 =>
  fadT 0 t4 fun t20 =>
  ldT t20 w3 fun t21 =>
  ixaT 3 t19 t21 fun t22 =>
  fadT 2 t22 fun t23 =>
  ldT t23 w3 fun t24 =>
  lenT t24 fun t25 =>
  clT PR 150 [t17, (.int .i64 0), t25] w3 fun t26 w4 =>
  notT t26 fun t27 =>
  condT t27
  (R (.bool false) w4)
  (fadT 2 t4 fun t30 =>
  ldT t30 w4 fun t31 =>
  lenT t31 fun t32 =>
  fadT 0 t3 fun t33 =>
  ldT t33 w4 fun t34 =>
  fadT 0 t4 fun t35 =>
  ldT t35 w4 fun t36 =>
  ixaT 3 t34 t36 fun t37 =>
  fadT 1 t37 fun t38 =>
  ldT t38 w4 fun t39 =>
  binT .neq t32 t39 fun t40 =>
  condT t40
  (R (.bool false) w4)
  (fadT 3 t4 fun t43 =>
  ldT t43 w4 fun t44 =>
  lenT t44 fun t45 =>
  binT .gtr t45 (.int .i64 6) fun t46 =>
  condT t46
  (R (.bool false) w4)
  (fadT 4 t4 fun t48 =>
  ldT t48 w4 fun t49 =>
  binT .sub t2 (.int .i64 1) fun t51 =>
  clT PR 150 [t49, (.int .i64 (-1)), t51] w4 fun t52 w5 =>
  condT t52
  (fadT 2 t4 fun t54 =>
  ldT t54 w5 fun t55 =>
  clT PR 214 [t55, t2] w5 fun t57 w6 =>
  condT t57
  (fadT 3 t4 fun t60 =>
  ldT t60 w6 fun t61 =>
  clT PR 214 [t61, t2] w6 fun t63 w7 =>
  condT t63
  (fadT 5 t4 fun t66 =>
  ldT t66 w7 fun t67 =>
  notT t67 fun t68 =>
  condT t68
  (R (.bool true) w7)
  (fadT 4 t4 fun t70 =>
  ldT t70 w7 fun t71 =>
  binT .eql t71 (.int .i64 (-1)) fun t72 =>
  condT t72
  (fadT 3 t4 fun t74 =>
  ldT t74 w7 fun t75 =>
  lenT t75 fun t76 =>
  binT .eql t76 (.int .i64 0) fun t77 =>
  R t77 w7)
  (R (.bool false) w7)))
  (R (.bool false) w7))
  (R (.bool false) w6))
  (R (.bool false) w5)))))
def Fspec_l11Form.H : Hints := {draw := fun i => match i with | 1 => { T := [0, 1, 0, 4, 12, 28, 63, 127, 255, 511, 1023, 511, 2559, 511, 8703, 31231, 63999, 129535, 260607, 524287, 1048575, 2097151, 4194303, 8388607, 16777215, 33554431, 8388607, 75497471, 8388607, 276824063, 1015021567, 2088763391, 4236247039, 8589934591, 17179869183, 34359738367, 68719476735, 137438953471, 274877906943, 549755813887, 1099511627775] } | _ => {}}
theorem Fspec_l11Form.eq (t0 t1 t2 : Value) : trF PR CX Fspec_l11Form.H Tryz.f152 [t0, t1, t2] = Fspec_l11Form t0 t1 t2 := by kernel_rfl
theorem Fspec_l11Form.cl {t0 t1 t2 : Value} {w : World} {R : VW} (h : Fspec_l11Form t0 t1 t2 w R) : clT PR 152 [t0, t1, t2] w R := cl_of_tr (H := Fspec_l11Form.H) ctxOk Tryz.func152 rfl (by rw [Fspec_l11Form.eq]; exact h)

/-! function 153: spec_l11Chain -/
def Fspec_l11Chain.l1 (x1 x2 x3 x4 : Value) (w : World) (Kn Kb Kr : LW) : Prop := ∀ _ : Env,
  binT .geq x4 (.int .i64 0) fun t9 =>
  condT t9
  (lenT x3 fun t17 =>
  fadT 0 x1 fun t18 =>
  ldT t18 w fun t19 =>
  lenT t19 fun t20 =>
  binT .geq t17 t20 fun t21 =>
  condT t21
  (bslT 3 0 1 #[] [] w fun t37 w3 =>
  Kr [x1, t37, x3, x4] w3)
  (fadT 0 x1 fun t24 =>
  ldT t24 w fun t25 =>
  lenT t25 fun t26 =>
  binT .geq x4 t26 fun t27 =>
  condT t27
  (bslT 3 0 1 #[] [] w fun t37 w4 =>
  Kr [x1, t37, x3, x4] w4)
  (fadT 0 x1 fun t30 =>
  ldT t30 w fun t31 =>
  ixaT 6 t31 x4 fun t33 =>
  fadT 5 t33 fun t34 =>
  ldT t34 w fun t35 =>
  condT t35
  (bslT 3 0 1 #[] [] w fun t37 w5 =>
  Kr [x1, t37, x3, x4] w5)
  (bslT 3 1 1 #[(.int .i64 0)] [(0, 1, x4)] w fun t40 w6 =>
  opT PR (Builtin.append_ #[26, 26] 26 #[x3, t40]) w6 fun t41 w7 =>
  fadT 0 x1 fun t10 =>
  ldT t10 w7 fun t11 =>
  ixaT 6 t11 x4 fun t13 =>
  fadT 4 t13 fun t14 =>
  ldT t14 w7 fun t15 =>
  Kn [x1, x2, t41, t15] w7))))
  (Kb [x1, x2, x3, x4] w)
def Fspec_l11Chain.k2 (x1 x2 x3 x4 : Value) (w : World) (R : VW) : Prop := ∀ _ : Env,
  R x3 w
def Fspec_l11Chain.r3 (x1 x2 x3 x4 : Value) (w : World) (R : VW) : Prop := ∀ _ : Env,
  R x2 w
def Fspec_l11Chain (t0 : Value) (w : World) (R : VW) : Prop :=
  boxT 57 t0 w fun t1 w1 =>
  bslT 3 0 1 #[] [] w1 fun t5 w2 =>
  fadT 1 t1 fun t6 =>
  ldT t6 w2 fun t7 =>
  loopT (fun s w Kn Kb Kr => Fspec_l11Chain.l1 (s.headD undef) (s.tail.headD undef) (s.tail.tail.headD undef) (s.tail.tail.tail.headD undef) w Kn Kb Kr) [t1, (.slice none 0 0), t5, t7] w2
  (fun s w => Fspec_l11Chain.k2 (s.headD undef) (s.tail.headD undef) (s.tail.tail.headD undef) (s.tail.tail.tail.headD undef) w R)
  (fun s w => Fspec_l11Chain.r3 (s.headD undef) (s.tail.headD undef) (s.tail.tail.headD undef) (s.tail.tail.tail.headD undef) w R)
def Fspec_l11Chain.H : Hints := {loop := fun i => match i with | 3 => some (0, [1, 2, 3, 4]) | _ => none}
theorem Fspec_l11Chain.eq (t0 : Value) : trF PR CX Fspec_l11Chain.H Tryz.f153 [t0] = Fspec_l11Chain t0 := by kernel_rfl
theorem Fspec_l11Chain.cl {t0 : Value} {w : World} {R : VW} (h : Fspec_l11Chain t0 w R) : clT PR 153 [t0] w R := cl_of_tr (H := Fspec_l11Chain.H) ctxOk Tryz.func153 rfl (by rw [Fspec_l11Chain.eq]; exact h)

/-! function 154: spec_l11Wait -/
def Fspec_l11Wait.l1 (x1 x2 x3 x4 : Value) (w : World) (Kn Kb Kr : LW) : Prop := ∀ _ : Env,
  lenT x3 fun t9 =>
  binT .lss x4 t9 fun t10 =>
  condT t10
  (fadT 0 x1 fun t13 =>
  ldT t13 (w.drew) fun t14 =>
  ixaT 1 x3 x4 fun t17 =>
  ldT t17 (w.drew) fun t18 =>
  ixaT 6 t14 t18 fun t19 =>
  fadT 3 t19 fun t20 =>
  ldT t20 (w.drew) fun t21 =>
  lenT t21 fun t22 =>
  binT .geq t22 (.int .i64 6) fun t23 =>
  condT t23
  (Kr [x1, (.bool false), x3, x4] (w.drew))
  (binT .add x4 (.int .i64 1) fun t12 =>
  Kn [x1, x2, x3, t12] (w.drew)))
  (Kb [x1, x2, x3, x4] w)
def Fspec_l11Wait.k2 (x1 x2 x3 x4 : Value) (w : World) (R : VW) : Prop := ∀ _ : Env,
  R (.bool true) w
def Fspec_l11Wait.r3 (x1 x2 x3 x4 : Value) (w : World) (R : VW) : Prop := ∀ _ : Env,
  R x2 w
def Fspec_l11Wait (t0 : Value) (w : World) (R : VW) : Prop :=
  boxT 57 t0 w fun t1 w1 =>
  ldsT 5 t1 w1 fun t5 =>
  clT PR 153 [t5] w1 fun t6 w2 =>
  loopT (fun s w Kn Kb Kr => Fspec_l11Wait.l1 (s.headD undef) (s.tail.headD undef) (s.tail.tail.headD undef) (s.tail.tail.tail.headD undef) w Kn Kb Kr) [t1, (.bool false), t6, (.int .i64 1)] w2
  (fun s w => Fspec_l11Wait.k2 (s.headD undef) (s.tail.headD undef) (s.tail.tail.headD undef) (s.tail.tail.tail.headD undef) w R)
  (fun s w => Fspec_l11Wait.r3 (s.headD undef) (s.tail.headD undef) (s.tail.tail.headD undef) (s.tail.tail.tail.headD undef) w R)
def Fspec_l11Wait.H : Hints := {draw := fun i => match i with | 5 => { T := [0, 1, 0, 0, 12, 28, 63, 127, 255, 511, 1023] } | _ => {}, loop := fun i => match i with | 3 => some (0, [1, 2, 3, 4]) | _ => none}
theorem Fspec_l11Wait.eq (t0 : Value) : trF PR CX Fspec_l11Wait.H Tryz.f154 [t0] = Fspec_l11Wait t0 := by kernel_rfl
theorem Fspec_l11Wait.cl {t0 : Value} {w : World} {R : VW} (h : Fspec_l11Wait t0 w R) : clT PR 154 [t0] w R := cl_of_tr (H := Fspec_l11Wait.H) ctxOk Tryz.func154 rfl (by rw [Fspec_l11Wait.eq]; exact h)

/-! function 160: spec_l6Rd_pick -/
def Fspec_l6Rd_pick (t0 t1 : Value) (w : World) (R : VW) : Prop :=
  nilT PR t0 fun t9 =>
  fadT 1 t9 fun t10 =>
  ldT t10 w fun t11 =>
  binT .add t11 (.int .i64 1) fun t12 =>
  nilT PR t0 fun t13 =>
  fadT 1 t13 fun t14 =>
  stT t14 t12 w fun w1 =>
  binT .lss t1 (.int .i64 1) fun t16 =>
  condT t16
  (R (.int .i64 0) w1)
  (nilT PR t0 fun t19 =>
  fadT 0 t19 fun t20 =>
  ldT t20 w1 fun t21 =>
  lenT t21 fun t22 =>
  binT .eql t22 (.int .i64 0) fun t23 =>
  condT t23
  (R (.int .i64 0) w1)
  (nilT PR t0 fun t26 =>
  fadT 1 t26 fun t27 =>
  ldT t27 w1 fun t28 =>
  binT .sub t28 (.int .i64 1) fun t29 =>
  nilT PR t0 fun t32 =>
  fadT 0 t32 fun t33 =>
  ldT t33 w1 fun t34 =>
  lenT t34 fun t35 =>
  binT .lss t29 t35 fun t36 =>
  condT t36
  (nilT PR t0 fun t38 =>
  fadT 0 t38 fun t39 =>
  ldT t39 w1 fun t40 =>
  ixaT 1 t40 t29 fun t42 =>
  ldT t42 w1 fun t43 =>
  cviT .i64 t43 fun t44 =>
  binT .rem t44 t1 fun t46 =>
  R t46 w1)
  (nilT PR t0 fun t48 =>
  fadT 0 t48 fun t49 =>
  ldT t49 (w1.drew) fun t50 =>
  nilT PR t0 fun t53 =>
  fadT 0 t53 fun t54 =>
  ldT t54 (w1.drew) fun t55 =>
  lenT t55 fun t56 =>
  binT .rem t29 t56 fun t57 =>
  ixaT 1 t50 t57 fun t58 =>
  ldT t58 (w1.drew) fun t59 =>
  cviT .i64 t59 fun t60 =>
  binT .mul t60 (.int .i64 131) fun t61 =>
  nilT PR t0 fun t63 =>
  fadT 0 t63 fun t64 =>
  ldT t64 (w1.drew) fun t65 =>
  binT .mul t29 (.int .i64 7) fun t67 =>
  binT .add t67 (.int .i64 3) fun t68 =>
  nilT PR t0 fun t70 =>
  fadT 0 t70 fun t71 =>
  ldT t71 (w1.drew) fun t72 =>
  lenT t72 fun t73 =>
  binT .rem t68 t73 fun t74 =>
  ixaT 1 t65 t74 fun t75 =>
  ldT t75 (w1.drew) fun t76 =>
  cviT .i64 t76 fun t77 =>
  binT .mul t77 (.int .i64 1117) fun t78 =>
  binT .add t61 t78 fun t79 =>
  binT .mul t29 (.int .i64 29) fun t81 =>
  binT .add t79 t81 fun t82 =>
  nilT PR t0 fun t85 =>
  fadT 0 t85 fun t86 =>
  ldT t86 (w1.drew) fun t87 =>
  lenT t87 fun t88 =>
  binT .quo t29 t88 fun t89 =>
  binT .mul t89 (.int .i64 53) fun t90 =>
  binT .add t82 t90 fun t91 =>
  binT .quo t91 (.int .i64 64) fun t94 =>
  binT .xor t91 t94 fun t95 =>
  binT .rem t95 t1 fun t98 =>
  R t98 (w1.drew))))
def Fspec_l6Rd_pick.H : Hints := {draw := fun i => match i with | 7 => { T := [0, 1, 3, 7, 0, 0, 32, 96, 224, 480, 1008, 2047, 4095, 8191, 16383, 0, 32768, 98304, 229376, 0, 524288, 1572864, 0, 4194304, 12582912, 29360128, 62914560, 133693440, 268402688, 536838144, 1073709056, 2147450880, 4294967295, 0, 8589934592, 34359738367, 0, 0, 137438953472, 412316860416, 962072674304, 2061584302080, 4329327034368, 8727373545472, 17592186044415, 35184372088831] } | _ => {}}
theorem Fspec_l6Rd_pick.eq (t0 t1 : Value) : trF PR CX Fspec_l6Rd_pick.H Tryz.f160 [t0, t1] = Fspec_l6Rd_pick t0 t1 := by kernel_rfl
theorem Fspec_l6Rd_pick.cl {t0 t1 : Value} {w : World} {R : VW} (h : Fspec_l6Rd_pick t0 t1 w R) : clT PR 160 [t0, t1] w R := cl_of_tr (H := Fspec_l6Rd_pick.H) ctxOk Tryz.func160 rfl (by rw [Fspec_l6Rd_pick.eq]; exact h)

/-! function 212: spec_l1Method -/
def Fspec_l1Method.l1 (x2 x3 x4 x5 : Value) (w : World) (Kn Kb Kr : LW) : Prop := ∀ _ : Env,
  fadT 2 x3 fun t25 =>
  ldT t25 w fun t26 =>
  lenT t26 fun t27 =>
  binT .lss x5 t27 fun t28 =>
  condT t28
  (ldsT 1 x2 (w.drew) fun t31 =>
  ldsT 3 x3 (w.drew) fun t32 =>
  fadT 2 x3 fun t33 =>
  ldT t33 (w.drew) fun t34 =>
  ixaT 2 t34 x5 fun t36 =>
  ldsT 2 t36 (w.drew) fun t37 =>
  clT PR 255 [t31, t32, t37] (w.drew) fun t38 w5 =>
  notT t38 fun t39 =>
  condT t39
  (Kr [x2, x3, (.bool false), x5] w5)
  (binT .add x5 (.int .i64 1) fun t30 =>
  Kn [x2, x3, x4, t30] w5))
  (Kb [x2, x3, x4, x5] w)
def Fspec_l1Method.k2 (x2 x3 x4 x5 : Value) (w : World) (R : VW) : Prop := ∀ _ : Env,
  R (.bool true) w
def Fspec_l1Method.r3 (x2 x3 x4 x5 : Value) (w : World) (R : VW) : Prop := ∀ _ : Env,
  R x4 w
def Fspec_l1Method (t0 t1 : Value) (w : World) (R : VW) : Prop :=
  boxT 42 t0 w fun t2 w1 =>
  boxT 87 t1 w1 fun t3 w2 =>
  fadT 0 t3 fun t6 =>
  ldT t6 w2 fun t7 =>
  clT PR 150 [t7, (.int .i64 0), (.int .i64 2)] w2 fun t8 w3 =>
  notT t8 fun t9 =>
  condT t9
  (R (.bool false) w3)
  (fadT 1 t3 fun t11 =>
  ldT t11 w3 fun t12 =>
  fadT 0 t3 fun t13 =>
  ldT t13 w3 fun t14 =>
  clT PR 150 [t12, t14, (.int .i64 4)] w3 fun t15 w4 =>
  notT t15 fun t16 =>
  condT t16
  (R (.bool false) w4)
  (fadT 2 t3 fun t19 =>
  ldT t19 w4 fun t20 =>
  lenT t20 fun t21 =>
  binT .gtr t21 (.int .i64 14) fun t22 =>
  condT t22
  (R (.bool false) w4)
  (loopT (fun s w Kn Kb Kr => Fspec_l1Method.l1 (s.headD undef) (s.tail.headD undef) (s.tail.tail.headD undef) (s.tail.tail.tail.headD undef) w Kn Kb Kr) [t2, t3, (.bool false), (.int .i64 0)] w4
  (fun s w => Fspec_l1Method.k2 (s.headD undef) (s.tail.headD undef) (s.tail.tail.headD undef) (s.tail.tail.tail.headD undef) w R)
  (fun s w => Fspec_l1Method.r3 (s.headD undef) (s.tail.headD undef) (s.tail.tail.headD undef) (s.tail.tail.tail.headD undef) w R))))
def Fspec_l1Method.H : Hints := {draw := fun i => match i with | 6 => { T := [0, 0, 0, 4, 0, 28, 60, 127, 255] } | _ => {}, loop := fun i => match i with | 4 => some (0, [2, 3, 4, 5]) | _ => none}
theorem Fspec_l1Method.eq (t0 t1 : Value) : trF PR CX Fspec_l1Method.H Tryz.f212 [t0, t1] = Fspec_l1Method t0 t1 := by kernel_rfl
theorem Fspec_l1Method.cl {t0 t1 : Value} {w : World} {R : VW} (h : Fspec_l1Method t0 t1 w R) : clT PR 212 [t0, t1] w R := cl_of_tr (H := Fspec_l1Method.H) ctxOk Tryz.func212 rfl (by rw [Fspec_l1Method.eq]; exact h)

/-! function 213: spec_l11Val -/
def Fspec_l11Val (t0 t1 : Value) (w : World) (R : VW) : Prop :=
  boxT 78 t0 w fun t2 w1 =>
  fadT 0 t2 fun t5 =>
  ldT t5 w1 fun t6 =>
  binT .eql t6 (.int .i64 0) fun t8 =>
  condT t8
  (fadT 1 t2 fun t9 =>
  ldT t9 w1 fun t10 =>
  binT .eql t10 (.int .i64 0) fun t11 =>
  R t11 w1)
  (binT .eql t6 (.int .i64 1) fun t13 =>
  condT t13
  (fadT 1 t2 fun t14 =>
  ldT t14 w1 fun t15 =>
  clT PR 150 [t15, (.int .i64 0), (.int .i64 999)] w1 fun t16 w2 =>
  R t16 w2)
  (binT .eql t6 (.int .i64 2) fun t18 =>
  condT t18
  (fadT 1 t2 fun t19 =>
  ldT t19 w1 fun t20 =>
  binT .sub t1 (.int .i64 1) fun t22 =>
  clT PR 150 [t20, (.int .i64 0), t22] w1 fun t23 w3 =>
  R t23 w3)
  (R (.bool false) w1)))
def Fspec_l11Val.H : Hints := {}
theorem Fspec_l11Val.eq (t0 t1 : Value) : trF PR CX Fspec_l11Val.H Tryz.f213 [t0, t1] = Fspec_l11Val t0 t1 := by kernel_rfl
theorem Fspec_l11Val.cl {t0 t1 : Value} {w : World} {R : VW} (h : Fspec_l11Val t0 t1 w R) : clT PR 213 [t0, t1] w R := cl_of_tr (H := Fspec_l11Val.H) ctxOk Tryz.func213 rfl (by rw [Fspec_l11Val.eq]; exact h)

/-! function 214: spec_l11Vals -/
def Fspec_l11Vals.l1 (x0 x1 x4 x5 : Value) (w : World) (Kn Kb Kr : LW) : Prop := ∀ _ : Env,
  lenT x0 fun t8 =>
  binT .lss x5 t8 fun t9 =>
  condT t9
  (ixaT 2 x0 x5 fun t14 =>
  ldsT 2 t14 w fun t15 =>
  clT PR 213 [t15, x1] w fun t17 w1 =>
  notT t17 fun t18 =>
  condT t18
  (Kr [x0, x1, (.bool false), x5] w1)
  (binT .add x5 (.int .i64 1) fun t11 =>
  Kn [x0, x1, x4, t11] w1))
  (Kb [x0, x1, x4, x5] w)
def Fspec_l11Vals.k2 (x0 x1 x4 x5 : Value) (w : World) (R : VW) : Prop := ∀ _ : Env,
  R (.bool true) w
def Fspec_l11Vals.r3 (x0 x1 x4 x5 : Value) (w : World) (R : VW) : Prop := ∀ _ : Env,
  R x4 w
def Fspec_l11Vals (t0 t1 : Value) (w : World) (R : VW) : Prop :=
  loopT (fun s w Kn Kb Kr => Fspec_l11Vals.l1 (s.headD undef) (s.tail.headD undef) (s.tail.tail.headD undef) (s.tail.tail.tail.headD undef) w Kn Kb Kr) [t0, t1, (.bool false), (.int .i64 0)] w
  (fun s w => Fspec_l11Vals.k2 (s.headD undef) (s.tail.headD undef) (s.tail.tail.headD undef) (s.tail.tail.tail.headD undef) w R)
  (fun s w => Fspec_l11Vals.r3 (s.headD undef) (s.tail.headD undef) (s.tail.tail.headD undef) (s.tail.tail.tail.headD undef) w R)
def Fspec_l11Vals.H : Hints := {loop := fun i => match i with | 2 => some (0, [0, 1, 4, 5]) | _ => none}
theorem Fspec_l11Vals.eq (t0 t1 : Value) : trF PR CX Fspec_l11Vals.H Tryz.f214 [t0, t1] = Fspec_l11Vals t0 t1 := by kernel_rfl
theorem Fspec_l11Vals.cl {t0 t1 : Value} {w : World} {R : VW} (h : Fspec_l11Vals t0 t1 w R) : clT PR 214 [t0, t1] w R := cl_of_tr (H := Fspec_l11Vals.H) ctxOk Tryz.func214 rfl (by rw [Fspec_l11Vals.eq]; exact h)

/-! function 218: spec_OpTakes -/
def Fspec_OpTakes.j8 (x2 x3 x7 x8 : Value) (w : World) (R : VW) : Prop := ∀ _ : Env,
  R (.tuple #[(.int .i64 0), (.int .i64 0)]) w
def Fspec_OpTakes.j7 (x2 x3 x7 x12 : Value) (w : World) (R : VW) : Prop := ∀ _ : Env,
  Fspec_OpTakes.j8 x2 x3 x7 undef w R
def Fspec_OpTakes.j6 (x2 x3 x7 x18 : Value) (w : World) (R : VW) : Prop := ∀ _ : Env,
  Fspec_OpTakes.j7 x2 x3 x7 undef w R
def Fspec_OpTakes.j5 (x2 x3 x7 x21 : Value) (w : World) (R : VW) : Prop := ∀ _ : Env,
  Fspec_OpTakes.j6 x2 x3 x7 undef w R
def Fspec_OpTakes.j4 (x2 x3 x7 x21 : Value) (w : World) (R : VW) : Prop := ∀ _ : Env,
  condT x21
  (R (.tuple #[(.int .i64 1), (.int .i64 1)]) w)
  (binT .eql x7 (.int .i64 14) fun t27 =>
  condT t27
  (R (.tuple #[(.int .i64 2), (.int .i64 0)]) w)
  (binT .eql x7 (.int .i64 15) fun t29 =>
  condT t29
  (R (.tuple #[(.int .i64 2), (.int .i64 1)]) w)
  (binT .eql x7 (.int .i64 9) fun t31 =>
  condT t31
  (fadT 1 x3 fun t32 =>
  ldT t32 w fun t33 =>
  fadT 0 x2 fun t34 =>
  ldT t34 w fun t35 =>
  lenT t35 fun t36 =>
  binT .sub t36 (.int .i64 1) fun t37 =>
  clT PR 150 [t33, (.int .i64 0), t37] w fun t38 w3 =>
  condT t38
  (fadT 0 x2 fun t39 =>
  ldT t39 w3 fun t40 =>
  fadT 1 x3 fun t41 =>
  ldT t41 w3 fun t42 =>
  ixaT 3 t40 t42 fun t43 =>
  fadT 0 t43 fun t44 =>
  ldT t44 w3 fun t45 =>
  R (.tuple #[t45, (.int .i64 1)]) w3)
  (Fspec_OpTakes.j5 x2 x3 x7 x21 w3 R))
  (Fspec_OpTakes.j5 x2 x3 x7 x21 w R))))
def Fspec_OpTakes.j9 (x2 x3 x7 x21 : Value) (w : World) (R : VW) : Prop := ∀ _ : Env,
  Fspec_OpTakes.j4 x2 x3 x7 x21 w R
def Fspec_OpTakes.j10 (x2 x3 x7 x21 : Value) (w : World) (R : VW) : Prop := ∀ _ : Env,
  Fspec_OpTakes.j9 x2 x3 x7 x21 w R
def Fspec_OpTakes.j3 (x2 x3 x7 x18 : Value) (w : World) (R : VW) : Prop := ∀ _ : Env,
  condT x18
  (R (.tuple #[(.int .i64 2), (.int .i64 1)]) w)
  (binT .eql x7 (.int .i64 12) fun t22 =>
  condT t22
  (Fspec_OpTakes.j4 x2 x3 x7 t22 w R)
  (binT .eql x7 (.int .i64 13) fun t23 =>
  condT t23
  (Fspec_OpTakes.j9 x2 x3 x7 t23 w R)
  (binT .eql x7 (.int .i64 17) fun t24 =>
  condT t24
  (Fspec_OpTakes.j10 x2 x3 x7 t24 w R)
  (binT .eql x7 (.int .i64 18) fun t25 =>
  Fspec_OpTakes.j10 x2 x3 x7 t25 w R))))
def Fspec_OpTakes.j2 (x2 x3 x7 x12 : Value) (w : World) (R : VW) : Prop := ∀ _ : Env,
  condT x12
  (R (.tuple #[(.int .i64 1), (.int .i64 0)]) w)
  (binT .eql x7 (.int .i64 5) fun t19 =>
  condT t19
  (Fspec_OpTakes.j3 x2 x3 x7 t19 w R)
  (binT .eql x7 (.int .i64 6) fun t20 =>
  Fspec_OpTakes.j3 x2 x3 x7 t20 w R))
def Fspec_OpTakes.j11 (x2 x3 x7 x12 : Value) (w : World) (R : VW) : Prop := ∀ _ : Env,
  Fspec_OpTakes.j2 x2 x3 x7 x12 w R
def Fspec_OpTakes.j12 (x2 x3 x7 x12 : Value) (w : World) (R : VW) : Prop := ∀ _ : Env,
  Fspec_OpTakes.j11 x2 x3 x7 x12 w R
def Fspec_OpTakes.j13 (x2 x3 x7 x12 : Value) (w : World) (R : VW) : Prop := ∀ _ : Env,
  Fspec_OpTakes.j12 x2 x3 x7 x12 w R
def Fspec_OpTakes.j1 (x2 x3 x7 x8 : Value) (w : World) (R : VW) : Prop := ∀ _ : Env,
  condT x8
  (R (.tuple #[(.int .i64 0), (.int .i64 1)]) w)
  (binT .eql x7 (.int .i64 3) fun t13 =>
  condT t13
  (Fspec_OpTakes.j2 x2 x3 x7 t13 w R)
  (binT .eql x7 (.int .i64 4) fun t14 =>
  condT t14
  (Fspec_OpTakes.j11 x2 x3 x7 t14 w R)
  (binT .eql x7 (.int .i64 8) fun t15 =>
  condT t15
  (Fspec_OpTakes.j12 x2 x3 x7 t15 w R)
  (binT .eql x7 (.int .i64 10) fun t16 =>
  condT t16
  (Fspec_OpTakes.j13 x2 x3 x7 t16 w R)
  (binT .eql x7 (.int .i64 16) fun t17 =>
  Fspec_OpTakes.j13 x2 x3 x7 t17 w R)))))
def Fspec_OpTakes.j14 (x2 x3 x7 x8 : Value) (w : World) (R : VW) : Prop := ∀ _ : Env,
  Fspec_OpTakes.j1 x2 x3 x7 x8 w R
def Fspec_OpTakes (t0 t1 : Value) (w : World) (R : VW) : Prop :=
  boxT 42 t0 w fun t2 w1 =>
  boxT 76 t1 w1 fun t3 w2 =>
  fadT 0 t3 fun t6 =>
  ldT t6 w2 fun t7 =>
  binT .eql t7 (.int .i64 1) fun t9 =>
  condT t9
  (Fspec_OpTakes.j1 t2 t3 t7 t9 w2 R)
  (binT .eql t7 (.int .i64 2) fun t10 =>
  condT t10
  (Fspec_OpTakes.j14 t2 t3 t7 t10 w2 R)
  (binT .eql t7 (.int .i64 11) fun t11 =>
  Fspec_OpTakes.j14 t2 t3 t7 t11 w2 R))
def Fspec_OpTakes.H : Hints := {join := fun i => match i with | 8 => some [2, 3, 7, 8] | 12 => some [2, 3, 7, 12] | 18 => some [2, 3, 7, 18] | 21 => some [2, 3, 7, 21] | _ => none}
theorem Fspec_OpTakes.eq (t0 t1 : Value) : trF PR CX Fspec_OpTakes.H Tryz.f218 [t0, t1] = Fspec_OpTakes t0 t1 := by kernel_rfl
theorem Fspec_OpTakes.cl {t0 t1 : Value} {w : World} {R : VW} (h : Fspec_OpTakes t0 t1 w R) : clT PR 218 [t0, t1] w R := cl_of_tr (H := Fspec_OpTakes.H) ctxOk Tryz.func218 rfl (by rw [Fspec_OpTakes.eq]; exact h)

/-! function 255: spec_l1Op -/
def Fspec_l1Op.j6 (x3 x4 x5 x8 x14 : Value) (w : World) (R : VW) : Prop := ∀ _ : Env,
  fadT 0 x5 fun t48 =>
  ldT t48 w fun t49 =>
  clT PR 150 [t49, (.int .i64 1), (.int .i64 18)] w fun t50 w9 =>
  condT t50
  (fadT 1 x5 fun t52 =>
  ldT t52 w9 fun t53 =>
  binT .eql t53 (.int .i64 0) fun t54 =>
  R t54 w9)
  (R (.bool false) w9)
def Fspec_l1Op.j5 (x3 x4 x5 x8 x23 : Value) (w : World) (R : VW) : Prop := ∀ _ : Env,
  Fspec_l1Op.j6 x3 x4 x5 x8 undef w R
def Fspec_l1Op.j4 (x5 x42 : Value) (w : World) (R : VW) : Prop := ∀ _ : Env,
  Fspec_l1Op.j5 undef undef x5 undef undef w R
def Fspec_l1Op.j3 (x5 x42 : Value) (w : World) (R : VW) : Prop := ∀ _ : Env,
  condT x42
  (fadT 1 x5 fun t45 =>
  ldT t45 w fun t46 =>
  clT PR 150 [t46, (.int .i64 0), (.int .i64 3)] w fun t47 w8 =>
  R t47 w8)
  (Fspec_l1Op.j4 x5 x42 w R)
def Fspec_l1Op.j2 (x3 x4 x5 x8 x23 : Value) (w : World) (R : VW) : Prop := ∀ _ : Env,
  condT x23
  (fadT 1 x5 fun t26 =>
  ldT t26 w fun t27 =>
  fadT 2 x4 fun t28 =>
  ldT t28 w fun t29 =>
  lenT t29 fun t30 =>
  binT .sub t30 (.int .i64 1) fun t31 =>
  clT PR 150 [t27, (.int .i64 0), t31] w fun t32 w6 =>
  R t32 w6)
  (binT .eql x8 (.int .i64 9) fun t34 =>
  condT t34
  (fadT 1 x5 fun t35 =>
  ldT t35 w fun t36 =>
  fadT 0 x3 fun t37 =>
  ldT t37 w fun t38 =>
  lenT t38 fun t39 =>
  binT .sub t39 (.int .i64 1) fun t40 =>
  clT PR 150 [t36, (.int .i64 0), t40] w fun t41 w7 =>
  R t41 w7)
  (binT .eql x8 (.int .i64 13) fun t43 =>
  condT t43
  (Fspec_l1Op.j3 x5 t43 w R)
  (binT .eql x8 (.int .i64 14) fun t44 =>
  Fspec_l1Op.j3 x5 t44 w R)))
def Fspec_l1Op.j1 (x3 x4 x5 x8 x14 : Value) (w : World) (R : VW) : Prop := ∀ _ : Env,
  condT x14
  (fadT 1 x5 fun t17 =>
  ldT t17 w fun t18 =>
  fadT 1 x4 fun t19 =>
  ldT t19 w fun t20 =>
  binT .sub t20 (.int .i64 1) fun t21 =>
  clT PR 150 [t18, (.int .i64 0), t21] w fun t22 w5 =>
  R t22 w5)
  (binT .eql x8 (.int .i64 7) fun t24 =>
  condT t24
  (Fspec_l1Op.j2 x3 x4 x5 x8 t24 w R)
  (binT .eql x8 (.int .i64 8) fun t25 =>
  Fspec_l1Op.j2 x3 x4 x5 x8 t25 w R))
def Fspec_l1Op (t0 t1 t2 : Value) (w : World) (R : VW) : Prop :=
  boxT 42 t0 w fun t3 w1 =>
  boxT 87 t1 w1 fun t4 w2 =>
  boxT 76 t2 w2 fun t5 w3 =>
  fadT 0 t5 fun t7 =>
  ldT t7 w3 fun t8 =>
  binT .eql t8 (.int .i64 1) fun t10 =>
  condT t10
  (fadT 1 t5 fun t11 =>
  ldT t11 w3 fun t12 =>
  clT PR 150 [t12, (.int .i64 0), (.int .i64 99)] w3 fun t13 w4 =>
  R t13 w4)
  (binT .eql t8 (.int .i64 2) fun t15 =>
  condT t15
  (Fspec_l1Op.j1 t3 t4 t5 t8 t15 w3 R)
  (binT .eql t8 (.int .i64 3) fun t16 =>
  Fspec_l1Op.j1 t3 t4 t5 t8 t16 w3 R))
def Fspec_l1Op.H : Hints := {join := fun i => match i with | 14 => some [3, 4, 5, 8, 14] | 23 => some [3, 4, 5, 8, 23] | 42 => some [5, 42] | _ => none}
theorem Fspec_l1Op.eq (t0 t1 t2 : Value) : trF PR CX Fspec_l1Op.H Tryz.f255 [t0, t1, t2] = Fspec_l1Op t0 t1 t2 := by kernel_rfl
theorem Fspec_l1Op.cl {t0 t1 t2 : Value} {w : World} {R : VW} (h : Fspec_l1Op t0 t1 t2 w R) : clT PR 255 [t0, t1, t2] w R := cl_of_tr (H := Fspec_l1Op.H) ctxOk Tryz.func255 rfl (by rw [Fspec_l1Op.eq]; exact h)
end Go.PT
