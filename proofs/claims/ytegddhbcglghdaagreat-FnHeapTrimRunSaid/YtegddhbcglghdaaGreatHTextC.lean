/- The reflected texts of functions of the program, and that a call keeps what its text says. -/
import Derived.Test.YtegddhbcglghdaaGreatCtx
set_option linter.unusedVariables false
set_option maxRecDepth 100000
namespace Go.PT
open Go.Proofs
/-! function 78: spec_HeapRun -/
def Fspec_HeapRun.l1 (x2 x6 x7 x8 x9 : Value) (w : World) (Kn Kb Kr : LW) : Prop := ∀ _ : Env,
  binT .lss x9 x2 fun t27 =>
  condT t27
  (nilT PR x8 fun t30 =>
  fadT 1 t30 fun t31 =>
  fadT 4 t31 fun t32 =>
  ldT t32 w fun t33 =>
  binT .eql t33 (.int .i64 0) fun t34 =>
  condT t34
  (clT PR 162 [x8] w fun t39 w12 =>
  binT .add x9 (.int .i64 1) fun t37 =>
  Kn [x2, x6, x7, x8, t37] w12)
  (Kb [x2, x6, x7, x8, x9] w))
  (Kb [x2, x6, x7, x8, x9] w)
def Fspec_HeapRun.k2 (x2 x6 x7 x8 x9 : Value) (w : World) (R : VW) : Prop := ∀ _ : Env,
  nilT PR x8 fun t41 =>
  fadT 1 t41 fun t42 =>
  ldsT 5 t42 w fun t43 =>
  stsT 5 x6 t43 w fun w13 =>
  ldsT 5 x6 w13 fun r14 =>
  R (.tuple #[r14, (.bool true)]) w13
def Fspec_HeapRun.r3 (x2 x6 x7 x8 x9 : Value) (w : World) (R : VW) : Prop := ∀ _ : Env,
  ldsT 5 x6 w fun r15 =>
  R (.tuple #[r15, x7]) w
def Fspec_HeapRun (t0 t1 t2 : Value) (w : World) (R : VW) : Prop :=
  boxT 42 t0 w fun t3 w1 =>
  boxT 57 t1 w1 fun t4 w2 =>
  allocT 57 #[(.slice none 0 0), (.int .i64 0), (.int .i64 0), (.slice none 0 0), (.int .i64 0)] w2 fun t6 w3 =>
  ldsT 1 t3 w3 fun t10 =>
  ldsT 5 t4 w3 fun t11 =>
  clT PR 66 [t10, t11] w3 fun t12 w4 =>
  notT t12 fun t13 =>
  condT t13
  (bldT #[(.slice none 0 0), (.int .i64 0), (.int .i64 0), (.slice none 0 0), (.int .i64 0)] [] fun t19 =>
  stsT 5 t6 t19 w4 fun w5 =>
  ldsT 5 t6 w5 fun r6 =>
  R (.tuple #[r6, (.bool false)]) w5)
  (clT PR 150 [t2, (.int .i64 0), (.int .i64 400)] w4 fun t16 w7 =>
  notT t16 fun t17 =>
  condT t17
  (bldT #[(.slice none 0 0), (.int .i64 0), (.int .i64 0), (.slice none 0 0), (.int .i64 0)] [] fun t19 =>
  stsT 5 t6 t19 w7 fun w8 =>
  ldsT 5 t6 w8 fun r9 =>
  R (.tuple #[r9, (.bool false)]) w8)
  (ldsT 1 t3 (w7.drew) fun t20 =>
  ldsT 5 t4 (w7.drew) fun t21 =>
  clT PR 161 [t21] (w7.drew) fun t22 w10 =>
  (ldsT 1 t3 w10 fun u => u = t20) ∧
  bldT #[(.slice none 0 0), (.slice none 0 0), (.int .i64 0), (.int .i64 0), (.slice none 0 0), (.int .i64 0)] [(0, 1, t20), (1, 5, t22)] fun t23 =>
  boxT 185 t23 w10 fun t24 w11 =>
  loopT (fun s w Kn Kb Kr => Fspec_HeapRun.l1 (s.headD undef) (s.tail.headD undef) (s.tail.tail.headD undef) (s.tail.tail.tail.headD undef) (s.tail.tail.tail.tail.headD undef) w Kn Kb Kr) [t2, t6, (.bool false), t24, (.int .i64 0)] w11
  (fun s w => Fspec_HeapRun.k2 (s.headD undef) (s.tail.headD undef) (s.tail.tail.headD undef) (s.tail.tail.tail.headD undef) (s.tail.tail.tail.tail.headD undef) w R)
  (fun s w => Fspec_HeapRun.r3 (s.headD undef) (s.tail.headD undef) (s.tail.tail.headD undef) (s.tail.tail.tail.headD undef) (s.tail.tail.tail.tail.headD undef) w R)))
def Fspec_HeapRun.H : Hints := {draw := fun i => match i with | 3 => { T := [0, 0, 2, 7, 15, 31] } | _ => {}, loop := fun i => match i with | 5 => some (0, [2, 6, 7, 8, 9]) | _ => none}
theorem Fspec_HeapRun.eq (t0 t1 t2 : Value) : trF PR CX Fspec_HeapRun.H Tryz.f78 [t0, t1, t2] = Fspec_HeapRun t0 t1 t2 := by kernel_rfl
theorem Fspec_HeapRun.cl {t0 t1 t2 : Value} {w : World} {R : VW} (h : Fspec_HeapRun t0 t1 t2 w R) : clT PR 78 [t0, t1, t2] w R := cl_of_tr (H := Fspec_HeapRun.H) ctxOk Tryz.func78 rfl (by rw [Fspec_HeapRun.eq]; exact h)

/-! function 86: spec_HeapStep -/
def Fspec_HeapStep (t0 t1 : Value) (w : World) (R : VW) : Prop :=
  boxT 42 t0 w fun t2 w1 =>
  boxT 57 t1 w1 fun t3 w2 =>
  allocT 57 #[(.slice none 0 0), (.int .i64 0), (.int .i64 0), (.slice none 0 0), (.int .i64 0)] w2 fun t4 w3 =>
  ldsT 1 t2 w3 fun t6 =>
  ldsT 5 t3 w3 fun t7 =>
  clT PR 78 [t6, t7, (.int .i64 1)] w3 fun t8 w4 =>
  extT t8 0 fun t9 =>
  extT t8 1 fun t10 =>
  stsT 5 t4 t9 w4 fun w5 =>
  ldsT 5 t4 w5 fun r6 =>
  R (.tuple #[r6, t10]) w5
def Fspec_HeapStep.H : Hints := {}
theorem Fspec_HeapStep.eq (t0 t1 : Value) : trF PR CX Fspec_HeapStep.H Tryz.f86 [t0, t1] = Fspec_HeapStep t0 t1 := by kernel_rfl
theorem Fspec_HeapStep.cl {t0 t1 : Value} {w : World} {R : VW} (h : Fspec_HeapStep t0 t1 w R) : clT PR 86 [t0, t1] w R := cl_of_tr (H := Fspec_HeapStep.H) ctxOk Tryz.func86 rfl (by rw [Fspec_HeapStep.eq]; exact h)

/-! function 119: spec_l11Copy -/
def Fspec_l11Copy (t0 : Value) (w : World) (R : VW) : Prop :=
  boxT 89 t0 w fun t1 w1 =>
  allocT 89 #[(.int .i64 0), (.int .i64 0), (.slice none 0 0), (.slice none 0 0), (.int .i64 0), (.bool false)] w1 fun t2 w2 =>
  bslT 78 0 2 #[] [] w2 fun t3 w3 =>
  fadT 2 t1 fun t4 =>
  ldT t4 w3 fun t5 =>
  opT PR (Builtin.append_ #[35, 35] 35 #[t3, t5]) w3 fun t6 w4 =>
  fadT 2 t1 fun t7 =>
  stT t7 t6 w4 fun w5 =>
  bslT 78 0 2 #[] [] w5 fun t8 w6 =>
  fadT 3 t1 fun t9 =>
  ldT t9 w6 fun t10 =>
  opT PR (Builtin.append_ #[35, 35] 35 #[t8, t10]) w6 fun t11 w7 =>
  fadT 3 t1 fun t12 =>
  stT t12 t11 w7 fun w8 =>
  ldsT 6 t1 w8 fun t13 =>
  stsT 6 t2 t13 w8 fun w9 =>
  ldsT 6 t2 w9 fun r10 =>
  R r10 w9
def Fspec_l11Copy.H : Hints := {}
theorem Fspec_l11Copy.eq (t0 : Value) : trF PR CX Fspec_l11Copy.H Tryz.f119 [t0] = Fspec_l11Copy t0 := by kernel_rfl
theorem Fspec_l11Copy.cl {t0 : Value} {w : World} {R : VW} (h : Fspec_l11Copy t0 w R) : clT PR 119 [t0] w R := cl_of_tr (H := Fspec_l11Copy.H) ctxOk Tryz.func119 rfl (by rw [Fspec_l11Copy.eq]; exact h)

/-! function 161: spec_l11Anew -/
def Fspec_l11Anew.l1 (x1 x2 x3 x4 : Value) (w : World) (Kn Kb Kr : LW) : Prop := ∀ _ : Env,
  fadT 0 x1 fun t9 =>
  ldT t9 w fun t10 =>
  lenT t10 fun t11 =>
  binT .lss x4 t11 fun t12 =>
  condT t12
  (fadT 0 x3 fun t15 =>
  ldT t15 (w.drew) fun t16 =>
  fadT 0 x1 fun t17 =>
  ldT t17 (w.drew) fun t18 =>
  ixaT 6 t18 x4 fun t20 =>
  ldsT 6 t20 (w.drew) fun t21 =>
  clT PR 119 [t21] (w.drew) fun t22 w7 =>
  (ldT t15 w7 fun u => u = t16) ∧
  bslT 89 1 6 #[(.int .i64 0), (.int .i64 0), (.slice none 0 0), (.slice none 0 0), (.int .i64 0), (.bool false)] [(0, 6, t22)] w7 fun t23 w8 =>
  (ldT t15 w8 fun u => u = t16) ∧
  opT PR (Builtin.append_ #[55, 55] 55 #[t16, t23]) w8 fun t24 w9 =>
  fadT 0 x3 fun t25 =>
  stT t25 t24 w9 fun w10 =>
  binT .add x4 (.int .i64 1) fun t14 =>
  Kn [x1, x2, x3, t14] w10)
  (Kb [x1, x2, x3, x4] w)
def Fspec_l11Anew.k2 (x1 x2 x3 x4 : Value) (w : World) (R : VW) : Prop := ∀ _ : Env,
  bslT 78 0 2 #[] [] w fun t26 w11 =>
  fadT 3 x1 fun t27 =>
  ldT t27 w11 fun t28 =>
  opT PR (Builtin.append_ #[35, 35] 35 #[t26, t28]) w11 fun t29 w12 =>
  fadT 3 x3 fun t30 =>
  stT t30 t29 w12 fun w13 =>
  ldsT 5 x3 w13 fun t31 =>
  stsT 5 x2 t31 w13 fun w14 =>
  ldsT 5 x2 w14 fun r15 =>
  R r15 w14
def Fspec_l11Anew.r3 (x1 x2 x3 x4 : Value) (w : World) (R : VW) : Prop := ∀ _ : Env,
  ldsT 5 x2 w fun r16 =>
  R r16 w
def Fspec_l11Anew (t0 : Value) (w : World) (R : VW) : Prop :=
  boxT 57 t0 w fun t1 w1 =>
  allocT 57 #[(.slice none 0 0), (.int .i64 0), (.int .i64 0), (.slice none 0 0), (.int .i64 0)] w1 fun t2 w2 =>
  ldsT 5 t1 w2 fun t5 =>
  allocT 57 #[(.slice none 0 0), (.int .i64 0), (.int .i64 0), (.slice none 0 0), (.int .i64 0)] w2 fun t3 w3 =>
  stsT 5 t3 t5 w3 fun w4 =>
  bslT 89 0 6 #[] [] w4 fun t6 w5 =>
  fadT 0 t3 fun t7 =>
  stT t7 t6 w5 fun w6 =>
  loopT (fun s w Kn Kb Kr => Fspec_l11Anew.l1 (s.headD undef) (s.tail.headD undef) (s.tail.tail.headD undef) (s.tail.tail.tail.headD undef) w Kn Kb Kr) [t1, t2, t3, (.int .i64 0)] w6
  (fun s w => Fspec_l11Anew.k2 (s.headD undef) (s.tail.headD undef) (s.tail.tail.headD undef) (s.tail.tail.tail.headD undef) w R)
  (fun s w => Fspec_l11Anew.r3 (s.headD undef) (s.tail.headD undef) (s.tail.tail.headD undef) (s.tail.tail.tail.headD undef) w R)
def Fspec_l11Anew.H : Hints := {draw := fun i => match i with | 6 => { T := [0, 1, 0, 4, 0, 28, 60, 124, 252, 511, 1023, 2047] } | _ => {}, loop := fun i => match i with | 4 => some (0, [1, 2, 3, 4]) | _ => none}
theorem Fspec_l11Anew.eq (t0 : Value) : trF PR CX Fspec_l11Anew.H Tryz.f161 [t0] = Fspec_l11Anew t0 := by kernel_rfl
theorem Fspec_l11Anew.cl {t0 : Value} {w : World} {R : VW} (h : Fspec_l11Anew t0 w R) : clT PR 161 [t0] w R := cl_of_tr (H := Fspec_l11Anew.H) ctxOk Tryz.func161 rfl (by rw [Fspec_l11Anew.eq]; exact h)

/-! function 162: spec_l11Heap_step -/
def Fspec_l11Heap_step (t0 : Value) (w : World) (R : VW) : Prop :=
  clT PR 217 [t0] w fun t10 w1 =>
  nilT PR t0 fun t12 =>
  fadT 0 t12 fun t13 =>
  fadT 0 t13 fun t14 =>
  ldT t14 (w1.drew) fun t15 =>
  nilT PR t10 fun t17 =>
  fadT 0 t17 fun t18 =>
  ldT t18 (w1.drew) fun t19 =>
  ixaT 3 t15 t19 fun t20 =>
  fadT 2 t20 fun t21 =>
  ldT t21 (w1.drew) fun t22 =>
  nilT PR t10 fun t24 =>
  fadT 1 t24 fun t25 =>
  ldT t25 (w1.drew) fun t26 =>
  lenT t22 fun t28 =>
  binT .geq t26 t28 fun t29 =>
  condT t29
  (nilT PR t0 fun t31 =>
  fadT 1 t31 fun t32 =>
  fadT 4 t32 fun t33 =>
  stT t33 (.int .i64 2) (w1.drew) fun w2 =>
  R (.tuple #[]) w2)
  (nilT PR t10 fun t36 =>
  fadT 1 t36 fun t37 =>
  ldT t37 (w1.drew) fun t38 =>
  ixaT 2 t22 t38 fun t39 =>
  ldsT 2 t39 (w1.drew) fun t40 =>
  allocT 76 #[(.int .i64 0), (.int .i64 0)] (w1.drew) fun t4 w3 =>
  stsT 2 t4 t40 w3 fun w4 =>
  nilT PR t0 fun t43 =>
  fadT 0 t43 fun t44 =>
  ldsT 1 t44 (w4.drew) fun t45 =>
  ldsT 2 t4 (w4.drew) fun t46 =>
  clT PR 218 [t45, t46] (w4.drew) fun t47 w5 =>
  extT t47 0 fun t48 =>
  extT t47 1 fun t49 =>
  nilT PR t10 fun t51 =>
  fadT 3 t51 fun t52 =>
  ldT t52 w5 fun t53 =>
  lenT t53 fun t54 =>
  binT .sub t54 t48 fun t56 =>
  binT .lss t56 (.int .i64 0) fun t58 =>
  condT t58
  (nilT PR t0 fun t66 =>
  fadT 1 t66 fun t67 =>
  fadT 4 t67 fun t68 =>
  stT t68 (.int .i64 2) w5 fun w6 =>
  R (.tuple #[]) w6)
  (binT .add t56 t49 fun t62 =>
  binT .gtr t62 (.int .i64 6) fun t63 =>
  condT t63
  (nilT PR t0 fun t66 =>
  fadT 1 t66 fun t67 =>
  fadT 4 t67 fun t68 =>
  stT t68 (.int .i64 2) w5 fun w7 =>
  R (.tuple #[]) w7)
  (bslT 78 0 2 #[] [] w5 fun t69 w8 =>
  nilT PR t10 fun t71 =>
  fadT 3 t71 fun t72 =>
  ldT t72 w8 fun t73 =>
  opT PR (Instr.sliceAt 35 t73 (some t56) none none) w8 fun t75 w9 =>
  opT PR (Builtin.append_ #[35, 35] 35 #[t69, t75]) w9 fun t76 w10 =>
  ldsT 2 t4 w10 fun t77 =>
  clT PR 219 [t77, t76] w10 fun t79 w11 =>
  notT t79 fun t80 =>
  condT t80
  (nilT PR t0 fun t82 =>
  fadT 1 t82 fun t83 =>
  fadT 4 t83 fun t84 =>
  stT t84 (.int .i64 2) w11 fun w12 =>
  R (.tuple #[]) w12)
  (bslT 78 0 2 #[] [] w11 fun t86 w13 =>
  nilT PR t10 fun t88 =>
  fadT 3 t88 fun t89 =>
  ldT t89 w13 fun t90 =>
  opT PR (Instr.sliceAt 35 t90 none (some t56) none) w13 fun t92 w14 =>
  opT PR (Builtin.append_ #[35, 35] 35 #[t86, t92]) w14 fun t93 w15 =>
  nilT PR t10 fun t94 =>
  fadT 3 t94 fun t95 =>
  stT t95 t93 w15 fun w16 =>
  nilT PR t10 fun t98 =>
  fadT 1 t98 fun t99 =>
  ldT t99 w16 fun t100 =>
  binT .add t100 (.int .i64 1) fun t101 =>
  nilT PR t10 fun t102 =>
  fadT 1 t102 fun t103 =>
  stT t103 t101 w16 fun w17 =>
  ldsT 2 t4 w17 fun t105 =>
  clT PR 220 [t0, t105, t76] w17 fun t107 w18 =>
  R (.tuple #[]) w18))))
def Fspec_l11Heap_step.H : Hints := {draw := fun i => match i with | 1 => { T := [0, 1, 3, 7, 15, 0, 32, 96, 224, 511, 1023, 2047, 4095] } | 5 => { T := [0, 1, 3, 7, 0, 31, 63, 127, 127, 255, 1023] } | _ => {}}
theorem Fspec_l11Heap_step.eq (t0 : Value) : trF PR CX Fspec_l11Heap_step.H Tryz.f162 [t0] = Fspec_l11Heap_step t0 := by kernel_rfl
theorem Fspec_l11Heap_step.cl {t0 : Value} {w : World} {R : VW} (h : Fspec_l11Heap_step t0 w R) : clT PR 162 [t0] w R := cl_of_tr (H := Fspec_l11Heap_step.H) ctxOk Tryz.func162 rfl (by rw [Fspec_l11Heap_step.eq]; exact h)

/-! function 196: spec_HeapNew -/
def Fspec_HeapNew (t0 : Value) (w : World) (R : VW) : Prop :=
  boxT 42 t0 w fun t1 w1 =>
  allocT 57 #[(.slice none 0 0), (.int .i64 0), (.int .i64 0), (.slice none 0 0), (.int .i64 0)] w1 fun t2 w2 =>
  ldsT 1 t1 w2 fun t4 =>
  clT PR 149 [t4] w2 fun t5 w3 =>
  notT t5 fun t6 =>
  condT t6
  (bldT #[(.slice none 0 0), (.int .i64 0), (.int .i64 0), (.slice none 0 0), (.int .i64 0)] [] fun t7 =>
  stsT 5 t2 t7 w3 fun w4 =>
  ldsT 5 t2 w4 fun r5 =>
  R (.tuple #[r5, (.bool false)]) w4)
  (ldsT 1 t1 w3 fun t8 =>
  bslT 78 0 2 #[] [] w3 fun t9 w6 =>
  clT PR 216 [t8, (.int .i64 0), t9, (.int .i64 (-1))] w6 fun t10 w7 =>
  bslT 89 1 6 #[(.int .i64 0), (.int .i64 0), (.slice none 0 0), (.slice none 0 0), (.int .i64 0), (.bool false)] [(0, 6, t10)] w7 fun t11 w8 =>
  bslT 78 0 2 #[] [] w8 fun t12 w9 =>
  bldT #[(.slice none 0 0), (.int .i64 0), (.int .i64 0), (.slice none 0 0), (.int .i64 0)] [(0, 1, t11), (2, 1, (.int .i64 1)), (3, 1, t12)] fun t13 =>
  stsT 5 t2 t13 w9 fun w10 =>
  ldsT 5 t2 w10 fun r11 =>
  R (.tuple #[r11, (.bool true)]) w10)
def Fspec_HeapNew.H : Hints := {}
theorem Fspec_HeapNew.eq (t0 : Value) : trF PR CX Fspec_HeapNew.H Tryz.f196 [t0] = Fspec_HeapNew t0 := by kernel_rfl
theorem Fspec_HeapNew.cl {t0 : Value} {w : World} {R : VW} (h : Fspec_HeapNew t0 w R) : clT PR 196 [t0] w R := cl_of_tr (H := Fspec_HeapNew.H) ctxOk Tryz.func196 rfl (by rw [Fspec_HeapNew.eq]; exact h)

/-! function 216: spec_l11Call -/
def Fspec_l11Call (t0 t1 t2 t3 : Value) (w : World) (R : VW) : Prop :=
  boxT 42 t0 w fun t4 w1 =>
  allocT 89 #[(.int .i64 0), (.int .i64 0), (.slice none 0 0), (.slice none 0 0), (.int .i64 0), (.bool false)] w1 fun t8 w2 =>
  bslT 78 0 2 #[] [] w2 fun t10 w3 =>
  opT PR (Builtin.append_ #[35, 35] 35 #[t10, t2]) w3 fun t12 w4 =>
  fadT 0 t4 fun t15 =>
  ldT t15 w4 fun t16 =>
  ixaT 3 t16 t1 fun t18 =>
  fadT 1 t18 fun t19 =>
  ldT t19 w4 fun t20 =>
  lenT t2 fun t22 =>
  binT .sub t20 t22 fun t23 =>
  clT PR 256 [t23] w4 fun t24 w5 =>
  opT PR (Builtin.append_ #[35, 35] 35 #[t12, t24]) w5 fun t25 w6 =>
  bslT 78 0 2 #[] [] w6 fun t26 w7 =>
  bldT #[(.int .i64 0), (.int .i64 0), (.slice none 0 0), (.slice none 0 0), (.int .i64 0), (.bool false)] [(0, 1, t1), (2, 1, t25), (3, 1, t26), (4, 1, t3)] fun t28 =>
  stsT 6 t8 t28 w7 fun w8 =>
  ldsT 6 t8 w8 fun r9 =>
  R r9 w8
def Fspec_l11Call.H : Hints := {}
theorem Fspec_l11Call.eq (t0 t1 t2 t3 : Value) : trF PR CX Fspec_l11Call.H Tryz.f216 [t0, t1, t2, t3] = Fspec_l11Call t0 t1 t2 t3 := by kernel_rfl
theorem Fspec_l11Call.cl {t0 t1 t2 t3 : Value} {w : World} {R : VW} (h : Fspec_l11Call t0 t1 t2 t3 w R) : clT PR 216 [t0, t1, t2, t3] w R := cl_of_tr (H := Fspec_l11Call.H) ctxOk Tryz.func216 rfl (by rw [Fspec_l11Call.eq]; exact h)

/-! function 217: spec_l11Heap_now -/
def Fspec_l11Heap_now (t0 : Value) (w : World) (R : VW) : Prop :=
  nilT PR t0 fun t4 =>
  fadT 1 t4 fun t5 =>
  fadT 0 t5 fun t6 =>
  ldT t6 (w.drew) fun t7 =>
  nilT PR t0 fun t9 =>
  fadT 1 t9 fun t10 =>
  fadT 1 t10 fun t11 =>
  ldT t11 (w.drew) fun t12 =>
  ixaT 6 t7 t12 fun t13 =>
  R t13 (w.drew)
def Fspec_l11Heap_now.H : Hints := {draw := fun i => match i with | 1 => { T := [0, 1, 3, 7, 15, 0, 32, 96, 224, 480, 1023, 2047] } | _ => {}}
theorem Fspec_l11Heap_now.eq (t0 : Value) : trF PR CX Fspec_l11Heap_now.H Tryz.f217 [t0] = Fspec_l11Heap_now t0 := by kernel_rfl
theorem Fspec_l11Heap_now.cl {t0 : Value} {w : World} {R : VW} (h : Fspec_l11Heap_now t0 w R) : clT PR 217 [t0] w R := cl_of_tr (H := Fspec_l11Heap_now.H) ctxOk Tryz.func217 rfl (by rw [Fspec_l11Heap_now.eq]; exact h)

/-! function 219: spec_l11Kinds -/
def Fspec_l11Kinds.j2 (x1 x21 : Value) (w : World) (R : VW) : Prop := ∀ _ : Env,
  R (.bool true) w
def Fspec_l11Kinds.j1 (x1 x21 : Value) (w : World) (R : VW) : Prop := ∀ _ : Env,
  condT x21
  (ixaT 2 x1 (.int .i64 0) fun t29 =>
  fadT 0 t29 fun t30 =>
  ldT t30 w fun t31 =>
  binT .eql t31 (.int .i64 2) fun t32 =>
  R t32 w)
  (Fspec_l11Kinds.j2 x1 x21 w R)
def Fspec_l11Kinds.j3 (x1 x21 : Value) (w : World) (R : VW) : Prop := ∀ _ : Env,
  Fspec_l11Kinds.j1 x1 x21 w R
def Fspec_l11Kinds.j4 (x1 x21 : Value) (w : World) (R : VW) : Prop := ∀ _ : Env,
  Fspec_l11Kinds.j3 x1 x21 w R
def Fspec_l11Kinds.j5 (x1 x21 : Value) (w : World) (R : VW) : Prop := ∀ _ : Env,
  Fspec_l11Kinds.j4 x1 x21 w R
def Fspec_l11Kinds.j6 (x1 x21 : Value) (w : World) (R : VW) : Prop := ∀ _ : Env,
  Fspec_l11Kinds.j5 x1 x21 w R
def Fspec_l11Kinds (t0 t1 : Value) (w : World) (R : VW) : Prop :=
  boxT 76 t0 w fun t2 w1 =>
  fadT 0 t2 fun t5 =>
  ldT t5 w1 fun t6 =>
  binT .eql t6 (.int .i64 5) fun t8 =>
  condT t8
  (ixaT 2 t1 (.int .i64 0) fun t10 =>
  fadT 0 t10 fun t11 =>
  ldT t11 w1 fun t12 =>
  binT .eql t12 (.int .i64 1) fun t13 =>
  condT t13
  (ixaT 2 t1 (.int .i64 1) fun t16 =>
  fadT 0 t16 fun t17 =>
  ldT t17 w1 fun t18 =>
  binT .eql t18 (.int .i64 1) fun t19 =>
  R t19 w1)
  (R (.bool false) w1))
  (binT .eql t6 (.int .i64 12) fun t22 =>
  condT t22
  (Fspec_l11Kinds.j1 t1 t22 w1 R)
  (binT .eql t6 (.int .i64 13) fun t23 =>
  condT t23
  (Fspec_l11Kinds.j3 t1 t23 w1 R)
  (binT .eql t6 (.int .i64 17) fun t24 =>
  condT t24
  (Fspec_l11Kinds.j4 t1 t24 w1 R)
  (binT .eql t6 (.int .i64 18) fun t25 =>
  condT t25
  (Fspec_l11Kinds.j5 t1 t25 w1 R)
  (binT .eql t6 (.int .i64 14) fun t26 =>
  condT t26
  (Fspec_l11Kinds.j6 t1 t26 w1 R)
  (binT .eql t6 (.int .i64 15) fun t27 =>
  Fspec_l11Kinds.j6 t1 t27 w1 R))))))
def Fspec_l11Kinds.H : Hints := {join := fun i => match i with | 21 => some [1, 21] | _ => none}
theorem Fspec_l11Kinds.eq (t0 t1 : Value) : trF PR CX Fspec_l11Kinds.H Tryz.f219 [t0, t1] = Fspec_l11Kinds t0 t1 := by kernel_rfl
theorem Fspec_l11Kinds.cl {t0 t1 : Value} {w : World} {R : VW} (h : Fspec_l11Kinds t0 t1 w R) : clT PR 219 [t0, t1] w R := cl_of_tr (H := Fspec_l11Kinds.H) ctxOk Tryz.func219 rfl (by rw [Fspec_l11Kinds.eq]; exact h)

/-! function 220: spec_l11Heap_do -/
def Fspec_l11Heap_do.j2 (x0 x2 x4 x6 x29 x118 : Value) (w : World) (R : VW) : Prop := ∀ _ : Env,
  R (.tuple #[]) w
def Fspec_l11Heap_do.j1 (x0 x2 x4 x6 x29 x118 : Value) (w : World) (R : VW) : Prop := ∀ _ : Env,
  condT x118
  (nilT PR x6 fun t125 =>
  fadT 3 t125 fun t126 =>
  ldT t126 (w.drew) fun t127 =>
  ldsT 2 x4 (w.drew) fun t129 =>
  ixaT 2 x2 (.int .i64 0) fun t131 =>
  fadT 1 t131 fun t132 =>
  ldT t132 (w.drew) fun t133 =>
  clT PR 261 [x0, t129, t133] (w.drew) fun t134 w23 =>
  (ldT t126 w23 fun u => u = t127) ∧
  bslT 78 1 2 #[(.int .i64 0), (.int .i64 0)] [(0, 2, t134)] w23 fun t135 w24 =>
  (ldT t126 w24 fun u => u = t127) ∧
  opT PR (Builtin.append_ #[35, 35] 35 #[t127, t135]) w24 fun t136 w25 =>
  nilT PR x6 fun t137 =>
  fadT 3 t137 fun t138 =>
  stT t138 t136 w25 fun w26 =>
  Fspec_l11Heap_do.j2 x0 x2 x4 x6 x29 x118 w26 R)
  (binT .eql x29 (.int .i64 14) fun t140 =>
  condT t140
  (fadT 1 x4 fun t141 =>
  ldT t141 (w.drew) fun t142 =>
  nilT PR x0 fun t144 =>
  fadT 1 t144 fun t145 =>
  fadT 0 t145 fun t146 =>
  ldT t146 (w.drew) fun t147 =>
  ixaT 2 x2 (.int .i64 0) fun t149 =>
  fadT 1 t149 fun t150 =>
  ldT t150 (w.drew) fun t151 =>
  ixaT 6 t147 t151 fun t152 =>
  fadT 2 t152 fun t153 =>
  ldT t153 (w.drew) fun t154 =>
  lenT t154 fun t155 =>
  binT .lss t142 t155 fun t156 =>
  condT t156
  (nilT PR x0 fun t158 =>
  fadT 1 t158 fun t159 =>
  fadT 0 t159 fun t160 =>
  ldT t160 ((w.drew).drew) fun t161 =>
  ixaT 2 x2 (.int .i64 0) fun t163 =>
  fadT 1 t163 fun t164 =>
  ldT t164 ((w.drew).drew) fun t165 =>
  ixaT 6 t161 t165 fun t166 =>
  fadT 2 t166 fun t167 =>
  ldT t167 ((w.drew).drew) fun t168 =>
  fadT 1 x4 fun t169 =>
  ldT t169 ((w.drew).drew) fun t170 =>
  ixaT 2 x2 (.int .i64 1) fun t172 =>
  ldsT 2 t172 ((w.drew).drew) fun t173 =>
  ixaT 2 t168 t170 fun t174 =>
  stsT 2 t174 t173 ((w.drew).drew) fun w27 =>
  Fspec_l11Heap_do.j2 x0 x2 x4 x6 x29 x118 w27 R)
  (Fspec_l11Heap_do.j2 x0 x2 x4 x6 x29 x118 (w.drew) R))
  (binT .eql x29 (.int .i64 15) fun t176 =>
  condT t176
  (ixaT 2 x2 (.int .i64 0) fun t179 =>
  fadT 1 t179 fun t180 =>
  ldT t180 (w.drew) fun t181 =>
  ixaT 2 x2 (.int .i64 1) fun t183 =>
  ldsT 2 t183 (w.drew) fun t184 =>
  clT PR 262 [x0, t181, t184] (w.drew) fun t185 w28 =>
  Fspec_l11Heap_do.j2 x0 x2 x4 x6 x29 x118 w28 R)
  (binT .eql x29 (.int .i64 16) fun t187 =>
  condT t187
  (ixaT 2 x2 (.int .i64 0) fun t190 =>
  ldsT 2 t190 w fun t191 =>
  clT PR 263 [x0, t191] w fun t192 w29 =>
  Fspec_l11Heap_do.j2 x0 x2 x4 x6 x29 x118 w29 R)
  (Fspec_l11Heap_do.j2 x0 x2 x4 x6 x29 x118 w R))))
def Fspec_l11Heap_do.j3 (x0 x2 x4 x6 x29 x118 : Value) (w : World) (R : VW) : Prop := ∀ _ : Env,
  Fspec_l11Heap_do.j1 x0 x2 x4 x6 x29 x118 w R
def Fspec_l11Heap_do.j4 (x0 x2 x4 x6 x29 x118 : Value) (w : World) (R : VW) : Prop := ∀ _ : Env,
  Fspec_l11Heap_do.j3 x0 x2 x4 x6 x29 x118 w R
def Fspec_l11Heap_do (t0 t1 t2 : Value) (w : World) (R : VW) : Prop :=
  boxT 76 t1 w fun t4 w1 =>
  clT PR 217 [t0] w1 fun t10 w2 =>
  ldsT 2 t4 w2 fun t12 =>
  clT PR 257 [t12, t2] w2 fun t14 w3 =>
  extT t14 0 fun t15 =>
  extT t14 1 fun t16 =>
  allocT 78 #[(.int .i64 0), (.int .i64 0)] w3 fun t7 w4 =>
  stsT 2 t7 t15 w4 fun w5 =>
  condT t16
  (nilT PR t10 fun t20 =>
  fadT 3 t20 fun t21 =>
  ldT t21 (w5.drew) fun t22 =>
  ldsT 2 t7 (w5.drew) fun t23 =>
  bslT 78 1 2 #[(.int .i64 0), (.int .i64 0)] [(0, 2, t23)] (w5.drew) fun t24 w6 =>
  (ldT t21 w6 fun u => u = t22) ∧
  opT PR (Builtin.append_ #[35, 35] 35 #[t22, t24]) w6 fun t25 w7 =>
  nilT PR t10 fun t26 =>
  fadT 3 t26 fun t27 =>
  stT t27 t25 w7 fun w8 =>
  R (.tuple #[]) w8)
  (fadT 0 t4 fun t28 =>
  ldT t28 w5 fun t29 =>
  binT .eql t29 (.int .i64 2) fun t31 =>
  condT t31
  (nilT PR t10 fun t34 =>
  fadT 3 t34 fun t35 =>
  ldT t35 (w5.drew) fun t36 =>
  nilT PR t10 fun t38 =>
  fadT 2 t38 fun t39 =>
  ldT t39 (w5.drew) fun t40 =>
  fadT 1 t4 fun t41 =>
  ldT t41 (w5.drew) fun t42 =>
  ixaT 2 t40 t42 fun t43 =>
  ldsT 2 t43 (w5.drew) fun t44 =>
  bslT 78 1 2 #[(.int .i64 0), (.int .i64 0)] [(0, 2, t44)] (w5.drew) fun t45 w9 =>
  (ldT t35 w9 fun u => u = t36) ∧
  opT PR (Builtin.append_ #[35, 35] 35 #[t36, t45]) w9 fun t46 w10 =>
  nilT PR t10 fun t47 =>
  fadT 3 t47 fun t48 =>
  stT t48 t46 w10 fun w11 =>
  R (.tuple #[]) w11)
  (binT .eql t29 (.int .i64 3) fun t50 =>
  condT t50
  (nilT PR t10 fun t52 =>
  fadT 2 t52 fun t53 =>
  ldT t53 (w5.drew) fun t54 =>
  fadT 1 t4 fun t55 =>
  ldT t55 (w5.drew) fun t56 =>
  ixaT 2 t2 (.int .i64 0) fun t58 =>
  ldsT 2 t58 (w5.drew) fun t59 =>
  ixaT 2 t54 t56 fun t60 =>
  stsT 2 t60 t59 (w5.drew) fun w12 =>
  R (.tuple #[]) w12)
  (binT .eql t29 (.int .i64 7) fun t62 =>
  condT t62
  (fadT 1 t4 fun t64 =>
  ldT t64 w5 fun t65 =>
  nilT PR t10 fun t66 =>
  fadT 1 t66 fun t67 =>
  stT t67 t65 w5 fun w13 =>
  R (.tuple #[]) w13)
  (binT .eql t29 (.int .i64 8) fun t69 =>
  condT t69
  (ixaT 2 t2 (.int .i64 0) fun t71 =>
  fadT 0 t71 fun t72 =>
  ldT t72 (w5.drew) fun t73 =>
  binT .eql t73 (.int .i64 0) fun t74 =>
  condT t74
  (fadT 1 t4 fun t83 =>
  ldT t83 (w5.drew) fun t84 =>
  nilT PR t10 fun t85 =>
  fadT 1 t85 fun t86 =>
  stT t86 t84 (w5.drew) fun w14 =>
  R (.tuple #[]) w14)
  (ixaT 2 t2 (.int .i64 0) fun t77 =>
  ldsT 2 t77 (w5.drew) fun t78 =>
  clT PR 258 [(.int .i64 0)] (w5.drew) fun t79 w15 =>
  (ldsT 2 t77 w15 fun u => u = t78) ∧
  opT PR (do eqGuard .eql 78 (.tmp 78) (.tmp 79) t78 t79; binOp .eql 78 t78 t79) w15 fun t80 w16 =>
  condT t80
  (fadT 1 t4 fun t83 =>
  ldT t83 w16 fun t84 =>
  nilT PR t10 fun t85 =>
  fadT 1 t85 fun t86 =>
  stT t86 t84 w16 fun w17 =>
  R (.tuple #[]) w17)
  (R (.tuple #[]) w16)))
  (binT .eql t29 (.int .i64 9) fun t88 =>
  condT t88
  (fadT 1 t4 fun t90 =>
  ldT t90 w5 fun t91 =>
  clT PR 259 [t0, t91, t2] w5 fun t93 w18 =>
  R (.tuple #[]) w18)
  (binT .eql t29 (.int .i64 10) fun t95 =>
  condT t95
  (ixaT 2 t2 (.int .i64 0) fun t98 =>
  ldsT 2 t98 w5 fun t99 =>
  clT PR 260 [t0, t99] w5 fun t100 w19 =>
  R (.tuple #[]) w19)
  (binT .eql t29 (.int .i64 11) fun t102 =>
  condT t102
  (nilT PR t10 fun t105 =>
  fadT 3 t105 fun t106 =>
  ldT t106 (w5.drew) fun t107 =>
  nilT PR t0 fun t109 =>
  fadT 1 t109 fun t110 =>
  fadT 1 t110 fun t111 =>
  ldT t111 (w5.drew) fun t112 =>
  bldT #[(.int .i64 0), (.int .i64 0)] [(0, 1, (.int .i64 2)), (1, 1, t112)] fun t113 =>
  bslT 78 1 2 #[(.int .i64 0), (.int .i64 0)] [(0, 2, t113)] (w5.drew) fun t114 w20 =>
  (ldT t106 w20 fun u => u = t107) ∧
  opT PR (Builtin.append_ #[35, 35] 35 #[t107, t114]) w20 fun t115 w21 =>
  nilT PR t10 fun t116 =>
  fadT 3 t116 fun t117 =>
  stT t117 t115 w21 fun w22 =>
  R (.tuple #[]) w22)
  (binT .eql t29 (.int .i64 12) fun t119 =>
  condT t119
  (Fspec_l11Heap_do.j1 t0 t2 t4 t10 t29 t119 w5 R)
  (binT .eql t29 (.int .i64 13) fun t120 =>
  condT t120
  (Fspec_l11Heap_do.j3 t0 t2 t4 t10 t29 t120 w5 R)
  (binT .eql t29 (.int .i64 17) fun t121 =>
  condT t121
  (Fspec_l11Heap_do.j4 t0 t2 t4 t10 t29 t121 w5 R)
  (binT .eql t29 (.int .i64 18) fun t122 =>
  Fspec_l11Heap_do.j4 t0 t2 t4 t10 t29 t122 w5 R)))))))))))
def Fspec_l11Heap_do.H : Hints := {draw := fun i => match i with | 4 => { T := [0, 0, 2, 6, 14, 0, 32, 126, 255, 511, 1023] } | 7 => { T := [0, 0, 2, 6, 14, 0, 32, 96, 224, 0, 512, 2016, 4064, 8160, 16382, 32767, 65535, 131071] } | 9 => { T := [0, 1, 3, 7, 0, 16, 0, 64, 192, 511, 1023] } | 13 => { T := [0, 1, 3, 7, 15, 31, 63, 127, 255, 63, 1023, 2047] } | 20 => { T := [0, 0, 2, 6, 14, 0, 32, 96, 224, 480, 992, 2016, 4094, 8191, 16383, 32767] } | 25 => { T := [0, 0, 2, 6, 14, 0, 0, 0, 128, 384, 896, 2016, 4064, 8190, 16383, 32767, 65535] } | 27 => { T := [0, 1, 0, 4, 12, 28, 60, 0, 128, 384, 896, 2044, 4092, 8188, 16380, 32767] } | 28 => { T := [0, 1, 3, 7, 15, 0, 32, 96, 224, 511, 1023, 2047, 0, 4096, 0, 16384, 49152, 131071, 262143] } | 30 => { T := [0, 0, 2, 6, 14, 0, 32, 96, 255] } | _ => {}, join := fun i => match i with | 118 => some [0, 2, 4, 6, 29, 118] | _ => none}
theorem Fspec_l11Heap_do.eq (t0 t1 t2 : Value) : trF PR CX Fspec_l11Heap_do.H Tryz.f220 [t0, t1, t2] = Fspec_l11Heap_do t0 t1 t2 := by kernel_rfl
theorem Fspec_l11Heap_do.cl {t0 t1 t2 : Value} {w : World} {R : VW} (h : Fspec_l11Heap_do t0 t1 t2 w R) : clT PR 220 [t0, t1, t2] w R := cl_of_tr (H := Fspec_l11Heap_do.H) ctxOk Tryz.func220 rfl (by rw [Fspec_l11Heap_do.eq]; exact h)

/-! function 256: spec_l11None -/
def Fspec_l11None.l1 (x0 x2 x3 x4 : Value) (w : World) (Kn Kb Kr : LW) : Prop := ∀ _ : Env,
  binT .lss x4 x0 fun t8 =>
  condT t8
  (bldT #[(.int .i64 0), (.int .i64 0)] [] fun t12 =>
  bslT 78 1 2 #[(.int .i64 0), (.int .i64 0)] [(0, 2, t12)] w fun t13 w2 =>
  opT PR (Builtin.append_ #[35, 35] 35 #[x3, t13]) w2 fun t14 w3 =>
  binT .add x4 (.int .i64 1) fun t10 =>
  Kn [x0, x2, t14, t10] w3)
  (Kb [x0, x2, x3, x4] w)
def Fspec_l11None.k2 (x0 x2 x3 x4 : Value) (w : World) (R : VW) : Prop := ∀ _ : Env,
  R x3 w
def Fspec_l11None.r3 (x0 x2 x3 x4 : Value) (w : World) (R : VW) : Prop := ∀ _ : Env,
  R x2 w
def Fspec_l11None (t0 : Value) (w : World) (R : VW) : Prop :=
  bslT 78 0 2 #[] [] w fun t5 w1 =>
  loopT (fun s w Kn Kb Kr => Fspec_l11None.l1 (s.headD undef) (s.tail.headD undef) (s.tail.tail.headD undef) (s.tail.tail.tail.headD undef) w Kn Kb Kr) [t0, (.slice none 0 0), t5, (.int .i64 0)] w1
  (fun s w => Fspec_l11None.k2 (s.headD undef) (s.tail.headD undef) (s.tail.tail.headD undef) (s.tail.tail.tail.headD undef) w R)
  (fun s w => Fspec_l11None.r3 (s.headD undef) (s.tail.headD undef) (s.tail.tail.headD undef) (s.tail.tail.tail.headD undef) w R)
def Fspec_l11None.H : Hints := {loop := fun i => match i with | 3 => some (0, [0, 2, 3, 4]) | _ => none}
theorem Fspec_l11None.eq (t0 : Value) : trF PR CX Fspec_l11None.H Tryz.f256 [t0] = Fspec_l11None t0 := by kernel_rfl
theorem Fspec_l11None.cl {t0 : Value} {w : World} {R : VW} (h : Fspec_l11None t0 w R) : clT PR 256 [t0] w R := cl_of_tr (H := Fspec_l11None.H) ctxOk Tryz.func256 rfl (by rw [Fspec_l11None.eq]; exact h)

/-! function 257: spec_l11Made -/
def Fspec_l11Made (t0 t1 : Value) (w : World) (R : VW) : Prop :=
  boxT 76 t0 w fun t2 w1 =>
  allocT 78 #[(.int .i64 0), (.int .i64 0)] w1 fun t4 w2 =>
  fadT 0 t2 fun t6 =>
  ldT t6 w2 fun t7 =>
  binT .eql t7 (.int .i64 1) fun t9 =>
  condT t9
  (fadT 1 t2 fun t10 =>
  ldT t10 w2 fun t11 =>
  clT PR 258 [t11] w2 fun t12 w3 =>
  stsT 2 t4 t12 w3 fun w4 =>
  ldsT 2 t4 w4 fun r5 =>
  R (.tuple #[r5, (.bool true)]) w4)
  (binT .eql t7 (.int .i64 5) fun t14 =>
  condT t14
  (ixaT 2 t1 (.int .i64 0) fun t16 =>
  fadT 1 t16 fun t17 =>
  ldT t17 (w2.drew) fun t18 =>
  ixaT 2 t1 (.int .i64 1) fun t20 =>
  fadT 1 t20 fun t21 =>
  ldT t21 (w2.drew) fun t22 =>
  binT .add t18 t22 fun t23 =>
  binT .rem t23 (.int .i64 1000) fun t24 =>
  clT PR 258 [t24] (w2.drew) fun t25 w6 =>
  stsT 2 t4 t25 w6 fun w7 =>
  ldsT 2 t4 w7 fun r8 =>
  R (.tuple #[r8, (.bool true)]) w7)
  (binT .eql t7 (.int .i64 6) fun t27 =>
  condT t27
  (ixaT 2 t1 (.int .i64 0) fun t29 =>
  ldsT 2 t29 (w2.drew) fun t30 =>
  ixaT 2 t1 (.int .i64 1) fun t32 =>
  ldsT 2 t32 (w2.drew) fun t33 =>
  opT PR (do eqGuard .eql 78 (.tmp 30) (.tmp 33) t30 t33; binOp .eql 78 t30 t33) (w2.drew) fun t34 w9 =>
  clT PR 279 [t34] w9 fun t35 w10 =>
  stsT 2 t4 t35 w10 fun w11 =>
  ldsT 2 t4 w11 fun r12 =>
  R (.tuple #[r12, (.bool true)]) w11)
  (bldT #[(.int .i64 0), (.int .i64 0)] [] fun t36 =>
  stsT 2 t4 t36 w2 fun w13 =>
  ldsT 2 t4 w13 fun r14 =>
  R (.tuple #[r14, (.bool false)]) w13)))
def Fspec_l11Made.H : Hints := {draw := fun i => match i with | 5 => { T := [0, 1, 3, 7, 0, 16, 48, 112, 255, 511, 1023, 2047, 4095] } | 7 => { T := [0, 1, 3, 0, 8, 24, 63, 127, 255, 511] } | _ => {}}
theorem Fspec_l11Made.eq (t0 t1 : Value) : trF PR CX Fspec_l11Made.H Tryz.f257 [t0, t1] = Fspec_l11Made t0 t1 := by kernel_rfl
theorem Fspec_l11Made.cl {t0 t1 : Value} {w : World} {R : VW} (h : Fspec_l11Made t0 t1 w R) : clT PR 257 [t0, t1] w R := cl_of_tr (H := Fspec_l11Made.H) ctxOk Tryz.func257 rfl (by rw [Fspec_l11Made.eq]; exact h)

/-! function 258: spec_l11Num -/
def Fspec_l11Num (t0 : Value) (w : World) (R : VW) : Prop :=
  allocT 78 #[(.int .i64 0), (.int .i64 0)] w fun t2 w1 =>
  bldT #[(.int .i64 0), (.int .i64 0)] [(0, 1, (.int .i64 1)), (1, 1, t0)] fun t4 =>
  stsT 2 t2 t4 w1 fun w2 =>
  ldsT 2 t2 w2 fun r3 =>
  R r3 w2
def Fspec_l11Num.H : Hints := {}
theorem Fspec_l11Num.eq (t0 : Value) : trF PR CX Fspec_l11Num.H Tryz.f258 [t0] = Fspec_l11Num t0 := by kernel_rfl
theorem Fspec_l11Num.cl {t0 : Value} {w : World} {R : VW} (h : Fspec_l11Num t0 w R) : clT PR 258 [t0] w R := cl_of_tr (H := Fspec_l11Num.H) ctxOk Tryz.func258 rfl (by rw [Fspec_l11Num.eq]; exact h)

/-! function 259: spec_l11Heap_call -/
def Fspec_l11Heap_call (t0 t1 t2 : Value) (w : World) (R : VW) : Prop :=
  nilT PR t0 fun t7 =>
  fadT 1 t7 fun t8 =>
  fadT 2 t8 fun t9 =>
  ldT t9 w fun t10 =>
  binT .geq t10 (.int .i64 30) fun t11 =>
  condT t11
  (nilT PR t0 fun t13 =>
  fadT 1 t13 fun t14 =>
  fadT 4 t14 fun t15 =>
  stT t15 (.int .i64 3) w fun w1 =>
  R (.tuple #[]) w1)
  (nilT PR t0 fun t18 =>
  fadT 1 t18 fun t19 =>
  fadT 0 t19 fun t20 =>
  ldT t20 (w.drew) fun t21 =>
  nilT PR t0 fun t23 =>
  fadT 0 t23 fun t24 =>
  ldsT 1 t24 (w.drew) fun t25 =>
  nilT PR t0 fun t29 =>
  fadT 1 t29 fun t30 =>
  fadT 1 t30 fun t31 =>
  ldT t31 (w.drew) fun t32 =>
  clT PR 216 [t25, t1, t2, t32] (w.drew) fun t33 w2 =>
  (ldT t20 w2 fun u => u = t21) ∧
  bslT 89 1 6 #[(.int .i64 0), (.int .i64 0), (.slice none 0 0), (.slice none 0 0), (.int .i64 0), (.bool false)] [(0, 6, t33)] w2 fun t34 w3 =>
  (ldT t20 w3 fun u => u = t21) ∧
  opT PR (Builtin.append_ #[55, 55] 55 #[t21, t34]) w3 fun t35 w4 =>
  nilT PR t0 fun t36 =>
  fadT 1 t36 fun t37 =>
  fadT 0 t37 fun t38 =>
  stT t38 t35 w4 fun w5 =>
  nilT PR t0 fun t41 =>
  fadT 1 t41 fun t42 =>
  fadT 2 t42 fun t43 =>
  ldT t43 w5 fun t44 =>
  binT .add t44 (.int .i64 1) fun t45 =>
  nilT PR t0 fun t46 =>
  fadT 1 t46 fun t47 =>
  fadT 2 t47 fun t48 =>
  stT t48 t45 w5 fun w6 =>
  nilT PR t0 fun t51 =>
  fadT 1 t51 fun t52 =>
  fadT 0 t52 fun t53 =>
  ldT t53 w6 fun t54 =>
  lenT t54 fun t55 =>
  binT .sub t55 (.int .i64 1) fun t56 =>
  nilT PR t0 fun t57 =>
  fadT 1 t57 fun t58 =>
  fadT 1 t58 fun t59 =>
  stT t59 t56 w6 fun w7 =>
  R (.tuple #[]) w7)
def Fspec_l11Heap_call.H : Hints := {draw := fun i => match i with | 2 => { T := [0, 0, 2, 6, 14, 30, 0, 64, 192, 448, 0, 0, 0, 4096, 12288, 28672, 61440, 131008, 262080, 524286, 1048575, 2097151, 4194303, 8388607] } | _ => {}}
theorem Fspec_l11Heap_call.eq (t0 t1 t2 : Value) : trF PR CX Fspec_l11Heap_call.H Tryz.f259 [t0, t1, t2] = Fspec_l11Heap_call t0 t1 t2 := by kernel_rfl
theorem Fspec_l11Heap_call.cl {t0 t1 t2 : Value} {w : World} {R : VW} (h : Fspec_l11Heap_call t0 t1 t2 w R) : clT PR 259 [t0, t1, t2] w R := cl_of_tr (H := Fspec_l11Heap_call.H) ctxOk Tryz.func259 rfl (by rw [Fspec_l11Heap_call.eq]; exact h)

/-! function 260: spec_l11Heap_ret -/
def Fspec_l11Heap_ret (t0 t1 : Value) (w : World) (R : VW) : Prop :=
  boxT 78 t1 w fun t3 w1 =>
  clT PR 217 [t0] w1 fun t6 w2 =>
  nilT PR t6 fun t7 =>
  fadT 4 t7 fun t8 =>
  ldT t8 w2 fun t9 =>
  nilT PR t0 fun t12 =>
  fadT 1 t12 fun t13 =>
  fadT 1 t13 fun t14 =>
  ldT t14 w2 fun t15 =>
  clT PR 280 [t0, t15] w2 fun t16 w3 =>
  nilT PR t0 fun t19 =>
  fadT 1 t19 fun t20 =>
  fadT 1 t20 fun t21 =>
  stT t21 t9 w3 fun w4 =>
  binT .lss t9 (.int .i64 0) fun t23 =>
  condT t23
  (ldsT 2 t3 w4 fun t25 =>
  clT PR 263 [t0, t25] w4 fun t26 w5 =>
  nilT PR t0 fun t28 =>
  fadT 1 t28 fun t29 =>
  fadT 4 t29 fun t30 =>
  stT t30 (.int .i64 1) w5 fun w6 =>
  R (.tuple #[]) w6)
  (ldsT 2 t3 (w4.drew) fun t38 =>
  (clT PR 217 [t0] (w4.drew) fun t32 w7 =>
  (ldsT 2 t3 w7 fun u => u = t38) ∧
  (clT PR 217 [t0] w7 fun t34 w8 =>
  (ldsT 2 t3 w8 fun u => u = t38) ∧
  nilT PR t34 fun t35 =>
  fadT 3 t35 fun t36 =>
  ldT t36 w8 fun t37 =>
  bslT 78 1 2 #[(.int .i64 0), (.int .i64 0)] [(0, 2, t38)] w8 fun t39 w9 =>
  (ldT t36 w9 fun u => u = t37) ∧
  opT PR (Builtin.append_ #[35, 35] 35 #[t37, t39]) w9 fun t40 w10 =>
  nilT PR t32 fun t41 =>
  fadT 3 t41 fun t42 =>
  stT t42 t40 w10 fun w11 =>
  R (.tuple #[]) w11) ∧
  (bslT 78 1 2 #[(.int .i64 0), (.int .i64 0)] [(0, 2, t38)] w7 fun t39 w12 =>
  clT PR 217 [t0] w12 fun t34 w13 =>
  (ldsT 2 t3 w13 fun u => u = t38) ∧
  nilT PR t34 fun t35 =>
  fadT 3 t35 fun t36 =>
  ldT t36 w13 fun t37 =>
  opT PR (Builtin.append_ #[35, 35] 35 #[t37, t39]) w13 fun t40 w14 =>
  nilT PR t32 fun t41 =>
  fadT 3 t41 fun t42 =>
  stT t42 t40 w14 fun w15 =>
  R (.tuple #[]) w15)) ∧
  (bslT 78 1 2 #[(.int .i64 0), (.int .i64 0)] [(0, 2, t38)] (w4.drew) fun t39 w16 =>
  clT PR 217 [t0] w16 fun t32 w17 =>
  (ldsT 2 t3 w17 fun u => u = t38) ∧
  clT PR 217 [t0] w17 fun t34 w18 =>
  (ldsT 2 t3 w18 fun u => u = t38) ∧
  nilT PR t34 fun t35 =>
  fadT 3 t35 fun t36 =>
  ldT t36 w18 fun t37 =>
  opT PR (Builtin.append_ #[35, 35] 35 #[t37, t39]) w18 fun t40 w19 =>
  nilT PR t32 fun t41 =>
  fadT 3 t41 fun t42 =>
  stT t42 t40 w19 fun w20 =>
  R (.tuple #[]) w20))
def Fspec_l11Heap_ret.H : Hints := {draw := fun i => match i with | 7 => { T := [0, 1, 0, 7, 15, 31, 63, 0, 128, 511, 1023, 2047, 4095] } | _ => {}}
theorem Fspec_l11Heap_ret.eq (t0 t1 : Value) : trF PR CX Fspec_l11Heap_ret.H Tryz.f260 [t0, t1] = Fspec_l11Heap_ret t0 t1 := by kernel_rfl
theorem Fspec_l11Heap_ret.cl {t0 t1 : Value} {w : World} {R : VW} (h : Fspec_l11Heap_ret t0 t1 w R) : clT PR 260 [t0, t1] w R := cl_of_tr (H := Fspec_l11Heap_ret.H) ctxOk Tryz.func260 rfl (by rw [Fspec_l11Heap_ret.eq]; exact h)

/-! function 261: spec_l11Heap_look -/
def Fspec_l11Heap_look (t0 t1 t2 : Value) (w : World) (R : VW) : Prop :=
  boxT 76 t1 w fun t4 w1 =>
  allocT 78 #[(.int .i64 0), (.int .i64 0)] w1 fun t6 w2 =>
  nilT PR t0 fun t9 =>
  fadT 1 t9 fun t10 =>
  fadT 0 t10 fun t11 =>
  ldT t11 w2 fun t12 =>
  ixaT 6 t12 t2 fun t14 =>
  ldsT 6 t14 w2 fun t15 =>
  allocT 89 #[(.int .i64 0), (.int .i64 0), (.slice none 0 0), (.slice none 0 0), (.int .i64 0), (.bool false)] w2 fun t7 w3 =>
  stsT 6 t7 t15 w3 fun w4 =>
  fadT 0 t4 fun t16 =>
  ldT t16 w4 fun t17 =>
  binT .eql t17 (.int .i64 12) fun t19 =>
  condT t19
  (fadT 4 t7 fun t20 =>
  ldT t20 w4 fun t21 =>
  binT .geq t21 (.int .i64 0) fun t22 =>
  condT t22
  (fadT 4 t7 fun t23 =>
  ldT t23 w4 fun t24 =>
  bldT #[(.int .i64 0), (.int .i64 0)] [(0, 1, (.int .i64 2)), (1, 1, t24)] fun t25 =>
  stsT 2 t6 t25 w4 fun w5 =>
  ldsT 2 t6 w5 fun r6 =>
  R r6 w5)
  (bldT #[(.int .i64 0), (.int .i64 0)] [] fun t50 =>
  stsT 2 t6 t50 w4 fun w7 =>
  ldsT 2 t6 w7 fun r8 =>
  R r8 w7))
  (binT .eql t17 (.int .i64 13) fun t27 =>
  condT t27
  (fadT 1 t4 fun t28 =>
  ldT t28 w4 fun t29 =>
  fadT 2 t7 fun t30 =>
  ldT t30 w4 fun t31 =>
  lenT t31 fun t32 =>
  binT .lss t29 t32 fun t33 =>
  condT t33
  (fadT 2 t7 fun t34 =>
  ldT t34 w4 fun t35 =>
  fadT 1 t4 fun t36 =>
  ldT t36 w4 fun t37 =>
  ixaT 2 t35 t37 fun t38 =>
  ldsT 2 t38 w4 fun t39 =>
  stsT 2 t6 t39 w4 fun w9 =>
  ldsT 2 t6 w9 fun r10 =>
  R r10 w9)
  (bldT #[(.int .i64 0), (.int .i64 0)] [] fun t50 =>
  stsT 2 t6 t50 w4 fun w11 =>
  ldsT 2 t6 w11 fun r12 =>
  R r12 w11))
  (binT .eql t17 (.int .i64 17) fun t41 =>
  condT t41
  (fadT 5 t7 fun t42 =>
  ldT t42 w4 fun t43 =>
  clT PR 279 [t43] w4 fun t44 w13 =>
  stsT 2 t6 t44 w13 fun w14 =>
  ldsT 2 t6 w14 fun r15 =>
  R r15 w14)
  (binT .eql t17 (.int .i64 18) fun t46 =>
  condT t46
  (fadT 1 t7 fun t47 =>
  ldT t47 w4 fun t48 =>
  clT PR 258 [t48] w4 fun t49 w16 =>
  stsT 2 t6 t49 w16 fun w17 =>
  ldsT 2 t6 w17 fun r18 =>
  R r18 w17)
  (bldT #[(.int .i64 0), (.int .i64 0)] [] fun t50 =>
  stsT 2 t6 t50 w4 fun w19 =>
  ldsT 2 t6 w19 fun r20 =>
  R r20 w19))))
def Fspec_l11Heap_look.H : Hints := {}
theorem Fspec_l11Heap_look.eq (t0 t1 t2 : Value) : trF PR CX Fspec_l11Heap_look.H Tryz.f261 [t0, t1, t2] = Fspec_l11Heap_look t0 t1 t2 := by kernel_rfl
theorem Fspec_l11Heap_look.cl {t0 t1 t2 : Value} {w : World} {R : VW} (h : Fspec_l11Heap_look t0 t1 t2 w R) : clT PR 261 [t0, t1, t2] w R := cl_of_tr (H := Fspec_l11Heap_look.H) ctxOk Tryz.func261 rfl (by rw [Fspec_l11Heap_look.eq]; exact h)

/-! function 262: spec_l11Heap_back -/
def Fspec_l11Heap_back.l1 (x0 x1 x5 : Value) (w : World) (Kn Kb Kr : LW) : Prop := ∀ _ : Env,
  nilT PR x0 fun t21 =>
  fadT 1 t21 fun t22 =>
  fadT 1 t22 fun t23 =>
  ldT t23 w fun t24 =>
  binT .neq t24 x1 fun t26 =>
  condT t26
  (nilT PR x0 fun t28 =>
  fadT 1 t28 fun t29 =>
  fadT 1 t29 fun t30 =>
  ldT t30 w fun t31 =>
  clT PR 217 [x0] w fun t34 w3 =>
  nilT PR t34 fun t35 =>
  fadT 4 t35 fun t36 =>
  ldT t36 w3 fun t37 =>
  nilT PR x0 fun t38 =>
  fadT 1 t38 fun t39 =>
  fadT 1 t39 fun t40 =>
  stT t40 t37 w3 fun w4 =>
  clT PR 280 [x0, t31] w4 fun t43 w5 =>
  Kn [x0, x1, x5] w5)
  (Kb [x0, x1, x5] w)
def Fspec_l11Heap_back.k2 (x0 x1 x5 : Value) (w : World) (R : VW) : Prop := ∀ _ : Env,
  ldsT 2 x5 (w.drew) fun t51 =>
  (clT PR 217 [x0] (w.drew) fun t45 w6 =>
  (ldsT 2 x5 w6 fun u => u = t51) ∧
  (clT PR 217 [x0] w6 fun t47 w7 =>
  (ldsT 2 x5 w7 fun u => u = t51) ∧
  nilT PR t47 fun t48 =>
  fadT 3 t48 fun t49 =>
  ldT t49 w7 fun t50 =>
  bslT 78 1 2 #[(.int .i64 0), (.int .i64 0)] [(0, 2, t51)] w7 fun t52 w8 =>
  (ldT t49 w8 fun u => u = t50) ∧
  opT PR (Builtin.append_ #[35, 35] 35 #[t50, t52]) w8 fun t53 w9 =>
  nilT PR t45 fun t54 =>
  fadT 3 t54 fun t55 =>
  stT t55 t53 w9 fun w10 =>
  R (.tuple #[]) w10) ∧
  (bslT 78 1 2 #[(.int .i64 0), (.int .i64 0)] [(0, 2, t51)] w6 fun t52 w11 =>
  clT PR 217 [x0] w11 fun t47 w12 =>
  (ldsT 2 x5 w12 fun u => u = t51) ∧
  nilT PR t47 fun t48 =>
  fadT 3 t48 fun t49 =>
  ldT t49 w12 fun t50 =>
  opT PR (Builtin.append_ #[35, 35] 35 #[t50, t52]) w12 fun t53 w13 =>
  nilT PR t45 fun t54 =>
  fadT 3 t54 fun t55 =>
  stT t55 t53 w13 fun w14 =>
  R (.tuple #[]) w14)) ∧
  (bslT 78 1 2 #[(.int .i64 0), (.int .i64 0)] [(0, 2, t51)] (w.drew) fun t52 w15 =>
  clT PR 217 [x0] w15 fun t45 w16 =>
  (ldsT 2 x5 w16 fun u => u = t51) ∧
  clT PR 217 [x0] w16 fun t47 w17 =>
  (ldsT 2 x5 w17 fun u => u = t51) ∧
  nilT PR t47 fun t48 =>
  fadT 3 t48 fun t49 =>
  ldT t49 w17 fun t50 =>
  opT PR (Builtin.append_ #[35, 35] 35 #[t50, t52]) w17 fun t53 w18 =>
  nilT PR t45 fun t54 =>
  fadT 3 t54 fun t55 =>
  stT t55 t53 w18 fun w19 =>
  R (.tuple #[]) w19)
def Fspec_l11Heap_back.r3 (x0 x1 x5 : Value) (w : World) (R : VW) : Prop := ∀ _ : Env,
  R (.tuple #[]) w
def Fspec_l11Heap_back (t0 t1 t2 : Value) (w : World) (R : VW) : Prop :=
  boxT 78 t2 w fun t5 w1 =>
  nilT PR t0 fun t8 =>
  fadT 1 t8 fun t9 =>
  fadT 0 t9 fun t10 =>
  ldT t10 w1 fun t11 =>
  ixaT 6 t11 t1 fun t13 =>
  fadT 5 t13 fun t14 =>
  ldT t14 w1 fun t15 =>
  condT t15
  (nilT PR t0 fun t17 =>
  fadT 1 t17 fun t18 =>
  fadT 4 t18 fun t19 =>
  stT t19 (.int .i64 2) w1 fun w2 =>
  R (.tuple #[]) w2)
  (loopT (fun s w Kn Kb Kr => Fspec_l11Heap_back.l1 (s.headD undef) (s.tail.headD undef) (s.tail.tail.headD undef) w Kn Kb Kr) [t0, t1, t5] w1
  (fun s w => Fspec_l11Heap_back.k2 (s.headD undef) (s.tail.headD undef) (s.tail.tail.headD undef) w R)
  (fun s w => Fspec_l11Heap_back.r3 (s.headD undef) (s.tail.headD undef) (s.tail.tail.headD undef) w R))
def Fspec_l11Heap_back.H : Hints := {draw := fun i => match i with | 7 => { T := [0, 1, 0, 7, 15, 31, 63, 0, 128, 511, 1023, 2047, 4095] } | _ => {}, loop := fun i => match i with | 3 => some (0, [0, 1, 5]) | _ => none}
theorem Fspec_l11Heap_back.eq (t0 t1 t2 : Value) : trF PR CX Fspec_l11Heap_back.H Tryz.f262 [t0, t1, t2] = Fspec_l11Heap_back t0 t1 t2 := by kernel_rfl
theorem Fspec_l11Heap_back.cl {t0 t1 t2 : Value} {w : World} {R : VW} (h : Fspec_l11Heap_back t0 t1 t2 w R) : clT PR 262 [t0, t1, t2] w R := cl_of_tr (H := Fspec_l11Heap_back.H) ctxOk Tryz.func262 rfl (by rw [Fspec_l11Heap_back.eq]; exact h)

/-! function 263: spec_l11Heap_say -/
def Fspec_l11Heap_say.j1 (x0 x3 : Value) (w : World) (R : VW) : Prop := ∀ _ : Env,
  nilT PR x0 fun t20 =>
  fadT 1 t20 fun t21 =>
  fadT 3 t21 fun t22 =>
  ldT t22 (w.drew) fun t23 =>
  ldsT 2 x3 (w.drew) fun t24 =>
  bslT 78 1 2 #[(.int .i64 0), (.int .i64 0)] [(0, 2, t24)] (w.drew) fun t25 w3 =>
  (ldT t22 w3 fun u => u = t23) ∧
  opT PR (Builtin.append_ #[35, 35] 35 #[t23, t25]) w3 fun t26 w4 =>
  nilT PR x0 fun t27 =>
  fadT 1 t27 fun t28 =>
  fadT 3 t28 fun t29 =>
  stT t29 t26 w4 fun w5 =>
  R (.tuple #[]) w5
def Fspec_l11Heap_say (t0 t1 : Value) (w : World) (R : VW) : Prop :=
  boxT 78 t1 w fun t3 w1 =>
  fadT 0 t3 fun t4 =>
  ldT t4 w1 fun t5 =>
  binT .eql t5 (.int .i64 2) fun t6 =>
  condT t6
  (nilT PR t0 fun t8 =>
  fadT 1 t8 fun t9 =>
  fadT 0 t9 fun t10 =>
  ldT t10 (w1.drew) fun t11 =>
  fadT 1 t3 fun t12 =>
  ldT t12 (w1.drew) fun t13 =>
  ixaT 6 t11 t13 fun t14 =>
  fadT 0 t14 fun t15 =>
  ldT t15 (w1.drew) fun t16 =>
  fadT 1 t3 fun t17 =>
  stT t17 t16 (w1.drew) fun w2 =>
  Fspec_l11Heap_say.j1 t0 t3 w2 R)
  (Fspec_l11Heap_say.j1 t0 t3 w1 R)
def Fspec_l11Heap_say.H : Hints := {draw := fun i => match i with | 2 => { T := [0, 1, 3, 7, 15, 0, 32, 127, 255, 511, 1023, 2047] } | 3 => { T := [0, 0, 2, 6, 14, 30, 0, 64, 254, 511, 1023, 2047, 4095] } | _ => {}, join := fun i => match i with | 6 => some [0, 3] | _ => none}
theorem Fspec_l11Heap_say.eq (t0 t1 : Value) : trF PR CX Fspec_l11Heap_say.H Tryz.f263 [t0, t1] = Fspec_l11Heap_say t0 t1 := by kernel_rfl
theorem Fspec_l11Heap_say.cl {t0 t1 : Value} {w : World} {R : VW} (h : Fspec_l11Heap_say t0 t1 w R) : clT PR 263 [t0, t1] w R := cl_of_tr (H := Fspec_l11Heap_say.H) ctxOk Tryz.func263 rfl (by rw [Fspec_l11Heap_say.eq]; exact h)

/-! function 279: spec_l11Bit -/
def Fspec_l11Bit (t0 : Value) (w : World) (R : VW) : Prop :=
  allocT 78 #[(.int .i64 0), (.int .i64 0)] w fun t2 w1 =>
  condT t0
  (clT PR 258 [(.int .i64 1)] w1 fun t4 w2 =>
  stsT 2 t2 t4 w2 fun w3 =>
  ldsT 2 t2 w3 fun r4 =>
  R r4 w3)
  (clT PR 258 [(.int .i64 0)] w1 fun t5 w5 =>
  stsT 2 t2 t5 w5 fun w6 =>
  ldsT 2 t2 w6 fun r7 =>
  R r7 w6)
def Fspec_l11Bit.H : Hints := {}
theorem Fspec_l11Bit.eq (t0 : Value) : trF PR CX Fspec_l11Bit.H Tryz.f279 [t0] = Fspec_l11Bit t0 := by kernel_rfl
theorem Fspec_l11Bit.cl {t0 : Value} {w : World} {R : VW} (h : Fspec_l11Bit t0 w R) : clT PR 279 [t0] w R := cl_of_tr (H := Fspec_l11Bit.H) ctxOk Tryz.func279 rfl (by rw [Fspec_l11Bit.eq]; exact h)

/-! function 280: spec_l11Heap_die -/
def Fspec_l11Heap_die (t0 t1 : Value) (w : World) (R : VW) : Prop :=
  nilT PR t0 fun t6 =>
  fadT 1 t6 fun t7 =>
  fadT 0 t7 fun t8 =>
  ldT t8 w fun t9 =>
  ixaT 6 t9 t1 fun t11 =>
  nilT PR t11 fun t13 =>
  fadT 5 t13 fun t14 =>
  stT t14 (.bool true) w fun w1 =>
  bslT 78 0 2 #[] [] w1 fun t16 w2 =>
  nilT PR t11 fun t17 =>
  fadT 3 t17 fun t18 =>
  stT t18 t16 w2 fun w3 =>
  nilT PR t11 fun t20 =>
  fadT 4 t20 fun t21 =>
  stT t21 (.int .i64 (-1)) w3 fun w4 =>
  R (.tuple #[]) w4
def Fspec_l11Heap_die.H : Hints := {}
theorem Fspec_l11Heap_die.eq (t0 t1 : Value) : trF PR CX Fspec_l11Heap_die.H Tryz.f280 [t0, t1] = Fspec_l11Heap_die t0 t1 := by kernel_rfl
theorem Fspec_l11Heap_die.cl {t0 t1 : Value} {w : World} {R : VW} (h : Fspec_l11Heap_die t0 t1 w R) : clT PR 280 [t0, t1] w R := cl_of_tr (H := Fspec_l11Heap_die.H) ctxOk Tryz.func280 rfl (by rw [Fspec_l11Heap_die.eq]; exact h)
end Go.PT
