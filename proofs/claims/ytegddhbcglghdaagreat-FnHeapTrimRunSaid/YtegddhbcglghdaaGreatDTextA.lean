/- The reflected texts of functions of the program, and that a call keeps what its text says. -/
import Derived.Test.YtegddhbcglghdaaGreatCtx
set_option linter.unusedVariables false
set_option maxRecDepth 100000
namespace Go.PT
open Go.Proofs
/-! function 62: spec_DrawHeapStep -/
def Fspec_DrawHeapStep (t0 : Value) (w : World) (R : VW) : Prop :=
  allocT 42 #[(.slice none 0 0)] w fun t2 w1 =>
  allocT 57 #[(.slice none 0 0), (.int .i64 0), (.int .i64 0), (.slice none 0 0), (.int .i64 0)] w1 fun t3 w2 =>
  clT PR 129 [t0] w2 fun t5 w3 =>
  clT PR 130 [t5] w3 fun t6 w4 =>
  extT t6 0 fun t7 =>
  extT t6 1 fun t8 =>
  stsT 1 t2 t7 w4 fun w5 =>
  stsT 5 t3 t8 w5 fun w6 =>
  ldsT 1 t2 w6 fun r7 =>
  ldsT 5 t3 w6 fun r8 =>
  R (.tuple #[r7, r8]) w6
def Fspec_DrawHeapStep.H : Hints := {}
theorem Fspec_DrawHeapStep.eq (t0 : Value) : trF PR CX Fspec_DrawHeapStep.H Tryz.f62 [t0] = Fspec_DrawHeapStep t0 := by kernel_rfl
theorem Fspec_DrawHeapStep.cl {t0 : Value} {w : World} {R : VW} (h : Fspec_DrawHeapStep t0 w R) : clT PR 62 [t0] w R := cl_of_tr (H := Fspec_DrawHeapStep.H) ctxOk Tryz.func62 rfl (by rw [Fspec_DrawHeapStep.eq]; exact h)

/-! function 77: spec_DrawHeapRun -/
def Fspec_DrawHeapRun (t0 : Value) (w : World) (R : VW) : Prop :=
  allocT 42 #[(.slice none 0 0)] w fun t2 w1 =>
  allocT 57 #[(.slice none 0 0), (.int .i64 0), (.int .i64 0), (.slice none 0 0), (.int .i64 0)] w1 fun t3 w2 =>
  clT PR 129 [t0] w2 fun t9 w3 =>
  clT PR 130 [t9] w3 fun t12 w4 =>
  extT t12 0 fun t13 =>
  extT t12 1 fun t14 =>
  allocT 42 #[(.slice none 0 0)] w4 fun t6 w5 =>
  allocT 57 #[(.slice none 0 0), (.int .i64 0), (.int .i64 0), (.slice none 0 0), (.int .i64 0)] w5 fun t7 w6 =>
  stsT 1 t6 t13 w6 fun w7 =>
  stsT 5 t7 t14 w7 fun w8 =>
  ldsT 1 t6 (w8.drew) fun t15 =>
  ldsT 5 t7 (w8.drew) fun t16 =>
  (bslT 3 8 1 #[(.int .i64 0)] [(0, 1, (.int .i64 0)), (1, 1, (.int .i64 1)), (2, 1, (.int .i64 5)), (3, 1, (.int .i64 30)), (4, 1, (.int .i64 100)), (5, 1, (.int .i64 400)), (6, 1, (.int .i64 401)), (7, 1, (.int .i64 (-1)))] (w8.drew) fun t17 w9 =>
  (ldsT 5 t7 w9 fun u => u = t16) ∧
  (ldsT 1 t6 w9 fun u => u = t15) ∧
  clT PR 160 [t9, (.int .i64 8)] w9 fun t19 w10 =>
  (ldsT 5 t7 w10 fun u => u = t16) ∧
  (ldsT 1 t6 w10 fun u => u = t15) ∧
  ixaT 1 t17 t19 fun t20 =>
  ldT t20 w10 fun t21 =>
  stsT 1 t2 t15 w10 fun w11 =>
  (ldT t20 w11 fun u => u = t21) ∧
  (ldsT 5 t7 w11 fun u => u = t16) ∧
  stsT 5 t3 t16 w11 fun w12 =>
  (ldT t20 w12 fun u => u = t21) ∧
  ldsT 1 t2 w12 fun r13 =>
  ldsT 5 t3 w12 fun r14 =>
  R (.tuple #[r13, r14, t21]) w12) ∧
  (clT PR 160 [t9, (.int .i64 8)] (w8.drew) fun t19 w15 =>
  (ldsT 5 t7 w15 fun u => u = t16) ∧
  (ldsT 1 t6 w15 fun u => u = t15) ∧
  (bslT 3 8 1 #[(.int .i64 0)] [(0, 1, (.int .i64 0)), (1, 1, (.int .i64 1)), (2, 1, (.int .i64 5)), (3, 1, (.int .i64 30)), (4, 1, (.int .i64 100)), (5, 1, (.int .i64 400)), (6, 1, (.int .i64 401)), (7, 1, (.int .i64 (-1)))] w15 fun t17 w16 =>
  (ldsT 5 t7 w16 fun u => u = t16) ∧
  (ldsT 1 t6 w16 fun u => u = t15) ∧
  ixaT 1 t17 t19 fun t20 =>
  ldT t20 w16 fun t21 =>
  stsT 1 t2 t15 w16 fun w17 =>
  (ldT t20 w17 fun u => u = t21) ∧
  (ldsT 5 t7 w17 fun u => u = t16) ∧
  stsT 5 t3 t16 w17 fun w18 =>
  (ldT t20 w18 fun u => u = t21) ∧
  ldsT 1 t2 w18 fun r19 =>
  ldsT 5 t3 w18 fun r20 =>
  R (.tuple #[r19, r20, t21]) w18) ∧
  (stsT 1 t2 t15 w15 fun w21 =>
  (ldsT 5 t7 w21 fun u => u = t16) ∧
  (bslT 3 8 1 #[(.int .i64 0)] [(0, 1, (.int .i64 0)), (1, 1, (.int .i64 1)), (2, 1, (.int .i64 5)), (3, 1, (.int .i64 30)), (4, 1, (.int .i64 100)), (5, 1, (.int .i64 400)), (6, 1, (.int .i64 401)), (7, 1, (.int .i64 (-1)))] w21 fun t17 w22 =>
  (ldsT 5 t7 w22 fun u => u = t16) ∧
  (ldsT 1 t6 w22 fun u => u = t15) ∧
  ixaT 1 t17 t19 fun t20 =>
  ldT t20 w22 fun t21 =>
  stsT 5 t3 t16 w22 fun w23 =>
  (ldT t20 w23 fun u => u = t21) ∧
  ldsT 1 t2 w23 fun r24 =>
  ldsT 5 t3 w23 fun r25 =>
  R (.tuple #[r24, r25, t21]) w23) ∧
  (stsT 5 t3 t16 w21 fun w26 =>
  bslT 3 8 1 #[(.int .i64 0)] [(0, 1, (.int .i64 0)), (1, 1, (.int .i64 1)), (2, 1, (.int .i64 5)), (3, 1, (.int .i64 30)), (4, 1, (.int .i64 100)), (5, 1, (.int .i64 400)), (6, 1, (.int .i64 401)), (7, 1, (.int .i64 (-1)))] w26 fun t17 w27 =>
  (ldsT 5 t7 w27 fun u => u = t16) ∧
  (ldsT 1 t6 w27 fun u => u = t15) ∧
  ixaT 1 t17 t19 fun t20 =>
  ldT t20 w27 fun t21 =>
  ldsT 1 t2 w27 fun r28 =>
  ldsT 5 t3 w27 fun r29 =>
  R (.tuple #[r28, r29, t21]) w27)))
def Fspec_DrawHeapRun.H : Hints := {draw := fun i => match i with | 3 => { T := [0, 0, 0, 0, 8, 28, 60, 25, 155, 511] } | _ => {}}
theorem Fspec_DrawHeapRun.eq (t0 : Value) : trF PR CX Fspec_DrawHeapRun.H Tryz.f77 [t0] = Fspec_DrawHeapRun t0 := by kernel_rfl
theorem Fspec_DrawHeapRun.cl {t0 : Value} {w : World} {R : VW} (h : Fspec_DrawHeapRun t0 w R) : clT PR 77 [t0] w R := cl_of_tr (H := Fspec_DrawHeapRun.H) ctxOk Tryz.func77 rfl (by rw [Fspec_DrawHeapRun.eq]; exact h)

/-! function 130: spec_l71Heap -/
def Fspec_l71Heap (t0 : Value) (w : World) (R : VW) : Prop :=
  allocT 42 #[(.slice none 0 0)] w fun t2 w1 =>
  allocT 57 #[(.slice none 0 0), (.int .i64 0), (.int .i64 0), (.slice none 0 0), (.int .i64 0)] w1 fun t3 w2 =>
  clT PR 170 [t0] w2 fun t8 w3 =>
  allocT 42 #[(.slice none 0 0)] w3 fun t4 w4 =>
  stsT 1 t4 t8 w4 fun w5 =>
  ldsT 1 t4 w5 fun t10 =>
  clT PR 196 [t10] w5 fun t11 w6 =>
  extT t11 0 fun t12 =>
  extT t11 1 fun t13 =>
  allocT 57 #[(.slice none 0 0), (.int .i64 0), (.int .i64 0), (.slice none 0 0), (.int .i64 0)] w6 fun t5 w7 =>
  stsT 5 t5 t12 w7 fun w8 =>
  ldsT 1 t4 (w8.drew) fun t15 =>
  ldsT 5 t5 (w8.drew) fun t16 =>
  clT PR 160 [t0, (.int .i64 90)] (w8.drew) fun t18 w9 =>
  (ldsT 5 t5 w9 fun u => u = t16) ∧
  (ldsT 1 t4 w9 fun u => u = t15) ∧
  clT PR 78 [t15, t16, t18] w9 fun t19 w10 =>
  extT t19 0 fun t20 =>
  extT t19 1 fun t21 =>
  stsT 5 t5 t20 w10 fun w11 =>
  clT PR 160 [t0, (.int .i64 14)] w11 fun t23 w12 =>
  binT .gtr t23 (.int .i64 0) fun t24 =>
  condT t24
  (ldsT 1 t4 (w12.drew) fun t25 =>
  ldsT 5 t5 (w12.drew) fun t26 =>
  stsT 1 t2 t25 (w12.drew) fun w13 =>
  (ldsT 5 t5 w13 fun u => u = t26) ∧
  stsT 5 t3 t26 w13 fun w14 =>
  ldsT 1 t2 w14 fun r15 =>
  ldsT 5 t3 w14 fun r16 =>
  R (.tuple #[r15, r16]) w14)
  (clT PR 160 [t0, (.int .i64 8)] w12 fun t28 w17 =>
  binT .eql t28 (.int .i64 0) fun t34 =>
  condT t34
  (fadT 0 t5 fun t36 =>
  ldT t36 w17 fun t37 =>
  lenT t37 fun t38 =>
  binT .add t38 (.int .i64 2) fun t39 =>
  clT PR 160 [t0, t39] w17 fun t40 w18 =>
  binT .sub t40 (.int .i64 1) fun t41 =>
  fadT 1 t5 fun t42 =>
  stT t42 t41 w18 fun w19 =>
  ldsT 1 t4 (w19.drew) fun t101 =>
  ldsT 5 t5 (w19.drew) fun t102 =>
  stsT 1 t2 t101 (w19.drew) fun w20 =>
  (ldsT 5 t5 w20 fun u => u = t102) ∧
  stsT 5 t3 t102 w20 fun w21 =>
  ldsT 1 t2 w21 fun r22 =>
  ldsT 5 t3 w21 fun r23 =>
  R (.tuple #[r22, r23]) w21)
  (binT .eql t28 (.int .i64 1) fun t44 =>
  condT t44
  (bslT 3 2 1 #[(.int .i64 0)] [(0, 1, (.int .i64 0)), (1, 1, (.int .i64 31))] w17 fun t45 w24 =>
  clT PR 160 [t0, (.int .i64 2)] w24 fun t47 w25 =>
  ixaT 1 t45 t47 fun t48 =>
  ldT t48 w25 fun t49 =>
  fadT 2 t5 fun t50 =>
  stT t50 t49 w25 fun w26 =>
  ldsT 1 t4 (w26.drew) fun t101 =>
  ldsT 5 t5 (w26.drew) fun t102 =>
  stsT 1 t2 t101 (w26.drew) fun w27 =>
  (ldsT 5 t5 w27 fun u => u = t102) ∧
  stsT 5 t3 t102 w27 fun w28 =>
  ldsT 1 t2 w28 fun r29 =>
  ldsT 5 t3 w28 fun r30 =>
  R (.tuple #[r29, r30]) w28)
  (binT .eql t28 (.int .i64 2) fun t52 =>
  condT t52
  (clT PR 160 [t0, (.int .i64 6)] w17 fun t54 w31 =>
  binT .sub t54 (.int .i64 1) fun t55 =>
  fadT 4 t5 fun t56 =>
  stT t56 t55 w31 fun w32 =>
  ldsT 1 t4 (w32.drew) fun t101 =>
  ldsT 5 t5 (w32.drew) fun t102 =>
  stsT 1 t2 t101 (w32.drew) fun w33 =>
  (ldsT 5 t5 w33 fun u => u = t102) ∧
  stsT 5 t3 t102 w33 fun w34 =>
  ldsT 1 t2 w34 fun r35 =>
  ldsT 5 t3 w34 fun r36 =>
  R (.tuple #[r35, r36]) w34)
  (binT .eql t28 (.int .i64 3) fun t58 =>
  condT t58
  (fadT 0 t5 fun t59 =>
  ldT t59 (w17.drew) fun t60 =>
  fadT 0 t5 fun t61 =>
  ldT t61 (w17.drew) fun t62 =>
  ixaT 6 t62 (.int .i64 0) fun t63 =>
  fadT 5 t63 fun t64 =>
  ldT t64 (w17.drew) fun t65 =>
  notT t65 fun t66 =>
  ixaT 6 t60 (.int .i64 0) fun t67 =>
  fadT 5 t67 fun t68 =>
  stT t68 t66 (w17.drew) fun w37 =>
  ldsT 1 t4 (w37.drew) fun t101 =>
  ldsT 5 t5 (w37.drew) fun t102 =>
  stsT 1 t2 t101 (w37.drew) fun w38 =>
  (ldsT 5 t5 w38 fun u => u = t102) ∧
  stsT 5 t3 t102 w38 fun w39 =>
  ldsT 1 t2 w39 fun r40 =>
  ldsT 5 t3 w39 fun r41 =>
  R (.tuple #[r40, r41]) w39)
  (binT .eql t28 (.int .i64 4) fun t70 =>
  condT t70
  (fadT 0 t5 fun t71 =>
  ldT t71 (w17.drew) fun t72 =>
  fadT 0 t5 fun t73 =>
  ldT t73 (w17.drew) fun t74 =>
  ixaT 6 t74 (.int .i64 0) fun t75 =>
  fadT 2 t75 fun t76 =>
  ldT t76 (w17.drew) fun t77 =>
  bldT #[(.int .i64 0), (.int .i64 0)] [] fun t78 =>
  bslT 78 1 2 #[(.int .i64 0), (.int .i64 0)] [(0, 2, t78)] (w17.drew) fun t79 w42 =>
  (ldT t76 w42 fun u => u = t77) ∧
  (ldT t73 w42 fun u => u = t74) ∧
  (ldT t71 w42 fun u => u = t72) ∧
  opT PR (Builtin.append_ #[35, 35] 35 #[t77, t79]) w42 fun t80 w43 =>
  (ldT t71 w43 fun u => u = t72) ∧
  ixaT 6 t72 (.int .i64 0) fun t81 =>
  fadT 2 t81 fun t82 =>
  stT t82 t80 w43 fun w44 =>
  ldsT 1 t4 (w44.drew) fun t101 =>
  ldsT 5 t5 (w44.drew) fun t102 =>
  stsT 1 t2 t101 (w44.drew) fun w45 =>
  (ldsT 5 t5 w45 fun u => u = t102) ∧
  stsT 5 t3 t102 w45 fun w46 =>
  ldsT 1 t2 w46 fun r47 =>
  ldsT 5 t3 w46 fun r48 =>
  R (.tuple #[r47, r48]) w46)
  (binT .eql t28 (.int .i64 5) fun t84 =>
  condT t84
  (fadT 0 t5 fun t85 =>
  ldT t85 w17 fun t86 =>
  fadT 0 t5 fun t87 =>
  ldT t87 w17 fun t88 =>
  lenT t88 fun t89 =>
  binT .sub t89 (.int .i64 1) fun t90 =>
  ixaT 6 t86 (.int .i64 0) fun t91 =>
  fadT 4 t91 fun t92 =>
  stT t92 t90 w17 fun w49 =>
  ldsT 1 t4 (w49.drew) fun t101 =>
  ldsT 5 t5 (w49.drew) fun t102 =>
  stsT 1 t2 t101 (w49.drew) fun w50 =>
  (ldsT 5 t5 w50 fun u => u = t102) ∧
  stsT 5 t3 t102 w50 fun w51 =>
  ldsT 1 t2 w51 fun r52 =>
  ldsT 5 t3 w51 fun r53 =>
  R (.tuple #[r52, r53]) w51)
  (binT .eql t28 (.int .i64 6) fun t94 =>
  condT t94
  (fadT 3 t5 fun t95 =>
  ldT t95 w17 fun t96 =>
  bldT #[(.int .i64 0), (.int .i64 0)] [(0, 1, (.int .i64 2)), (1, 1, (.int .i64 9))] fun t97 =>
  bslT 78 1 2 #[(.int .i64 0), (.int .i64 0)] [(0, 2, t97)] w17 fun t98 w54 =>
  opT PR (Builtin.append_ #[35, 35] 35 #[t96, t98]) w54 fun t99 w55 =>
  fadT 3 t5 fun t100 =>
  stT t100 t99 w55 fun w56 =>
  ldsT 1 t4 (w56.drew) fun t101 =>
  ldsT 5 t5 (w56.drew) fun t102 =>
  stsT 1 t2 t101 (w56.drew) fun w57 =>
  (ldsT 5 t5 w57 fun u => u = t102) ∧
  stsT 5 t3 t102 w57 fun w58 =>
  ldsT 1 t2 w58 fun r59 =>
  ldsT 5 t3 w58 fun r60 =>
  R (.tuple #[r59, r60]) w58)
  (fadT 0 t5 fun t29 =>
  ldT t29 w17 fun t30 =>
  opT PR (Instr.sliceAt 55 t30 (some (.int .i64 1)) none none) w17 fun t31 w61 =>
  fadT 0 t5 fun t32 =>
  stT t32 t31 w61 fun w62 =>
  ldsT 1 t4 (w62.drew) fun t101 =>
  ldsT 5 t5 (w62.drew) fun t102 =>
  stsT 1 t2 t101 (w62.drew) fun w63 =>
  (ldsT 5 t5 w63 fun u => u = t102) ∧
  stsT 5 t3 t102 w63 fun w64 =>
  ldsT 1 t2 w64 fun r65 =>
  ldsT 5 t3 w64 fun r66 =>
  R (.tuple #[r65, r66]) w64))))))))
def Fspec_l71Heap.H : Hints := {draw := fun i => match i with | 3 => { T := [0, 0, 0, 4, 15, 31, 63, 63, 127] } | 5 => { T := [0, 0, 1, 7] } | 15 => { T := [0, 1, 0, 4, 12, 28, 60, 124, 255, 511, 1023] } | 17 => { T := [0, 1, 0, 4, 12, 28, 60, 0, 128, 508, 1023, 2047, 4095] } | 22 => { T := [0, 0, 1, 7] } | _ => {}}
theorem Fspec_l71Heap.eq (t0 : Value) : trF PR CX Fspec_l71Heap.H Tryz.f130 [t0] = Fspec_l71Heap t0 := by kernel_rfl
theorem Fspec_l71Heap.cl {t0 : Value} {w : World} {R : VW} (h : Fspec_l71Heap t0 w R) : clT PR 130 [t0] w R := cl_of_tr (H := Fspec_l71Heap.H) ctxOk Tryz.func130 rfl (by rw [Fspec_l71Heap.eq]; exact h)

/-! function 170: spec_l71Prog -/
def Fspec_l71Prog.l1 (x0 x2 x3 x4 : Value) (w : World) (Kn Kb Kr : LW) : Prop := ∀ _ : Env,
  binT .gtr x4 (.int .i64 0) fun t12 =>
  condT t12
  (clT PR 160 [x0, (.int .i64 3)] w fun t17 w4 =>
  bslT 3 1 1 #[(.int .i64 0)] [(0, 1, t17)] w4 fun t18 w5 =>
  opT PR (Builtin.append_ #[26, 26] 26 #[x3, t18]) w5 fun t19 w6 =>
  binT .sub x4 (.int .i64 1) fun t14 =>
  Kn [x0, x2, t19, t14] w6)
  (Kb [x0, x2, x3, x4] w)
def Fspec_l71Prog.l3 (x0 x2 x3 x5 x6 : Value) (w : World) (Kn Kb Kr : LW) : Prop := ∀ _ : Env,
  lenT x3 fun t23 =>
  binT .lss x6 t23 fun t24 =>
  condT t24
  (fadT 0 x5 fun t27 =>
  ldT t27 (w.drew) fun t28 =>
  clT PR 230 [x0, x3, x6] (w.drew) fun t32 w9 =>
  (ldT t27 w9 fun u => u = t28) ∧
  bslT 87 1 3 #[(.int .i64 0), (.int .i64 0), (.slice none 0 0)] [(0, 3, t32)] w9 fun t33 w10 =>
  (ldT t27 w10 fun u => u = t28) ∧
  opT PR (Builtin.append_ #[40, 40] 40 #[t28, t33]) w10 fun t34 w11 =>
  fadT 0 x5 fun t35 =>
  stT t35 t34 w11 fun w12 =>
  binT .add x6 (.int .i64 1) fun t26 =>
  Kn [x0, x2, x3, x5, t26] w12)
  (Kb [x0, x2, x3, x5, x6] w)
def Fspec_l71Prog.k4 (x0 x2 x3 x5 x6 : Value) (w : World) (R : VW) : Prop := ∀ _ : Env,
  ldsT 1 x5 w fun t36 =>
  stsT 1 x2 t36 w fun w13 =>
  ldsT 1 x2 w13 fun r14 =>
  R r14 w13
def Fspec_l71Prog.r5 (x0 x2 x3 x5 x6 : Value) (w : World) (R : VW) : Prop := ∀ _ : Env,
  ldsT 1 x2 w fun r15 =>
  R r15 w
def Fspec_l71Prog.k2 (x0 x2 x3 x4 : Value) (w : World) (R : VW) : Prop := ∀ _ : Env,
  bldT #[(.slice none 0 0)] [] fun t20 =>
  allocT 42 #[(.slice none 0 0)] w fun t5 w7 =>
  stsT 1 t5 t20 w7 fun w8 =>
  loopT (fun s w Kn Kb Kr => Fspec_l71Prog.l3 (s.headD undef) (s.tail.headD undef) (s.tail.tail.headD undef) (s.tail.tail.tail.headD undef) (s.tail.tail.tail.tail.headD undef) w Kn Kb Kr) [x0, x2, x3, t5, (.int .i64 0)] w8
  (fun s w => Fspec_l71Prog.k4 (s.headD undef) (s.tail.headD undef) (s.tail.tail.headD undef) (s.tail.tail.tail.headD undef) (s.tail.tail.tail.tail.headD undef) w R)
  (fun s w => Fspec_l71Prog.r5 (s.headD undef) (s.tail.headD undef) (s.tail.tail.headD undef) (s.tail.tail.tail.headD undef) (s.tail.tail.tail.tail.headD undef) w R)
def Fspec_l71Prog.r6 (x0 x2 x3 x4 : Value) (w : World) (R : VW) : Prop := ∀ _ : Env,
  ldsT 1 x2 w fun r16 =>
  R r16 w
def Fspec_l71Prog (t0 : Value) (w : World) (R : VW) : Prop :=
  allocT 42 #[(.slice none 0 0)] w fun t2 w1 =>
  bslT 3 1 1 #[(.int .i64 0)] [(0, 1, (.int .i64 0))] w1 fun t7 w2 =>
  clT PR 160 [t0, (.int .i64 3)] w2 fun t9 w3 =>
  binT .add (.int .i64 1) t9 fun t10 =>
  loopT (fun s w Kn Kb Kr => Fspec_l71Prog.l1 (s.headD undef) (s.tail.headD undef) (s.tail.tail.headD undef) (s.tail.tail.tail.headD undef) w Kn Kb Kr) [t0, t2, t7, t10] w3
  (fun s w => Fspec_l71Prog.k2 (s.headD undef) (s.tail.headD undef) (s.tail.tail.headD undef) (s.tail.tail.tail.headD undef) w R)
  (fun s w => Fspec_l71Prog.r6 (s.headD undef) (s.tail.headD undef) (s.tail.tail.headD undef) (s.tail.tail.tail.headD undef) w R)
def Fspec_l71Prog.H : Hints := {draw := fun i => match i with | 10 => { T := [0, 1, 0, 0, 0, 28, 60, 127, 255, 511] } | _ => {}, loop := fun i => match i with | 3 => some (0, [0, 2, 3, 4]) | 8 => some (2, [0, 2, 3, 5, 6]) | _ => none}
theorem Fspec_l71Prog.eq (t0 : Value) : trF PR CX Fspec_l71Prog.H Tryz.f170 [t0] = Fspec_l71Prog t0 := by kernel_rfl
theorem Fspec_l71Prog.cl {t0 : Value} {w : World} {R : VW} (h : Fspec_l71Prog t0 w R) : clT PR 170 [t0] w R := cl_of_tr (H := Fspec_l71Prog.H) ctxOk Tryz.func170 rfl (by rw [Fspec_l71Prog.eq]; exact h)

/-! function 230: spec_l71Method -/
def Fspec_l71Method.j1 (x0 x1 x6 x7 x8 x9 x10 : Value) (w : World) (Kn Kb Kr : LW) : Prop := ∀ _ : Env,
  fadT 2 x7 fun t65 =>
  ldT t65 w fun t66 =>
  lenT t66 fun t67 =>
  lenT x10 fun t69 =>
  binT .add t67 t69 fun t70 =>
  binT .leq t70 (.int .i64 12) fun t71 =>
  condT t71
  (fadT 2 x7 fun t72 =>
  ldT t72 w fun t73 =>
  opT PR (Builtin.append_ #[85, 85] 85 #[t73, x10]) w fun t75 w24 =>
  fadT 2 x7 fun t76 =>
  stT t76 t75 w24 fun w25 =>
  binT .add x9 (.int .i64 1) fun t28 =>
  Kn [x0, x1, x6, x7, x8, t28] w25)
  (binT .add x9 (.int .i64 1) fun t28 =>
  Kn [x0, x1, x6, x7, x8, t28] w)
def Fspec_l71Method.l1 (x0 x1 x6 x7 x8 x9 : Value) (w : World) (Kn Kb Kr : LW) : Prop := ∀ _ : Env,
  binT .lss x9 (.int .i64 4) fun t26 =>
  condT t26
  (fadT 1 x7 fun t31 =>
  ldT t31 w fun t32 =>
  clT PR 268 [x0, x1, t32] w fun t33 w18 =>
  binT .lss x8 (.int .i64 0) fun t35 =>
  condT t35
  (clT PR 160 [x0, (.int .i64 6)] w18 fun t38 w19 =>
  binT .eql t38 (.int .i64 0) fun t39 =>
  condT t39
  (fadT 2 x7 fun t42 =>
  ldT t42 w19 fun t43 =>
  lenT t43 fun t44 =>
  lenT t33 fun t46 =>
  binT .add t44 t46 fun t47 =>
  binT .leq t47 (.int .i64 10) fun t48 =>
  condT t48
  (fadT 2 x7 fun t50 =>
  ldT t50 w19 fun t51 =>
  lenT t51 fun t52 =>
  binT .add t52 (.int .i64 1) fun t53 =>
  fadT 2 x7 fun t54 =>
  ldT t54 (w19.drew) fun t55 =>
  fadT 1 x7 fun t57 =>
  ldT t57 (w19.drew) fun t58 =>
  bldT #[(.int .i64 0), (.int .i64 0)] [(0, 1, (.int .i64 8))] fun t61 =>
  clT PR 160 [x0, t58] (w19.drew) fun t59 w20 =>
  (ldT t54 w20 fun u => u = t55) ∧
  bldT #[(.int .i64 0), (.int .i64 0)] [(0, 1, (.int .i64 2)), (1, 1, t59)] fun t60 =>
  bslT 76 2 2 #[(.int .i64 0), (.int .i64 0)] [(0, 2, t60), (2, 2, t61)] w20 fun t62 w21 =>
  (ldT t54 w21 fun u => u = t55) ∧
  opT PR (Builtin.append_ #[85, 85] 85 #[t55, t62]) w21 fun t63 w22 =>
  fadT 2 x7 fun t64 =>
  stT t64 t63 w22 fun w23 =>
  Fspec_l71Method.j1 x0 x1 x6 x7 t53 x9 t33 w23 Kn Kb Kr)
  (Fspec_l71Method.j1 x0 x1 x6 x7 x8 x9 t33 w19 Kn Kb Kr))
  (Fspec_l71Method.j1 x0 x1 x6 x7 x8 x9 t33 w19 Kn Kb Kr))
  (Fspec_l71Method.j1 x0 x1 x6 x7 x8 x9 t33 w18 Kn Kb Kr))
  (Kb [x0, x1, x6, x7, x8, x9] w)
def Fspec_l71Method.j3 (x6 x7 : Value) (w : World) (R : VW) : Prop := ∀ _ : Env,
  fadT 2 x7 fun t106 =>
  ldT t106 w fun t107 =>
  bldT #[(.int .i64 0), (.int .i64 0)] [(0, 1, (.int .i64 10))] fun t108 =>
  bslT 76 1 2 #[(.int .i64 0), (.int .i64 0)] [(0, 2, t108)] w fun t109 w31 =>
  opT PR (Builtin.append_ #[85, 85] 85 #[t107, t109]) w31 fun t110 w32 =>
  fadT 2 x7 fun t111 =>
  stT t111 t110 w32 fun w33 =>
  ldsT 3 x7 w33 fun t112 =>
  stsT 3 x6 t112 w33 fun w34 =>
  ldsT 3 x6 w34 fun r35 =>
  R r35 w34
def Fspec_l71Method.j2 (x0 x6 x7 : Value) (w : World) (R : VW) : Prop := ∀ _ : Env,
  clT PR 160 [x0, (.int .i64 3)] w fun t88 w27 =>
  binT .eql t88 (.int .i64 0) fun t89 =>
  condT t89
  (fadT 2 x7 fun t90 =>
  ldT t90 w27 fun t91 =>
  bldT #[(.int .i64 0), (.int .i64 0)] [(0, 1, (.int .i64 11))] fun t92 =>
  bslT 76 1 2 #[(.int .i64 0), (.int .i64 0)] [(0, 2, t92)] w27 fun t93 w28 =>
  opT PR (Builtin.append_ #[85, 85] 85 #[t91, t93]) w28 fun t94 w29 =>
  fadT 2 x7 fun t95 =>
  stT t95 t94 w29 fun w30 =>
  Fspec_l71Method.j3 x6 x7 w30 R)
  (fadT 2 x7 fun t96 =>
  ldT t96 (w27.drew) fun t97 =>
  fadT 1 x7 fun t99 =>
  ldT t99 (w27.drew) fun t100 =>
  clT PR 160 [x0, t100] (w27.drew) fun t101 w36 =>
  (ldT t96 w36 fun u => u = t97) ∧
  bldT #[(.int .i64 0), (.int .i64 0)] [(0, 1, (.int .i64 2)), (1, 1, t101)] fun t102 =>
  bslT 76 1 2 #[(.int .i64 0), (.int .i64 0)] [(0, 2, t102)] w36 fun t103 w37 =>
  (ldT t96 w37 fun u => u = t97) ∧
  opT PR (Builtin.append_ #[85, 85] 85 #[t97, t103]) w37 fun t104 w38 =>
  fadT 2 x7 fun t105 =>
  stT t105 t104 w38 fun w39 =>
  Fspec_l71Method.j3 x6 x7 w39 R)
def Fspec_l71Method.k2 (x0 x1 x6 x7 x8 x9 : Value) (w : World) (R : VW) : Prop := ∀ _ : Env,
  binT .geq x8 (.int .i64 0) fun t78 =>
  condT t78
  (fadT 2 x7 fun t79 =>
  ldT t79 w fun t80 =>
  fadT 2 x7 fun t82 =>
  ldT t82 w fun t83 =>
  lenT t83 fun t84 =>
  ixaT 2 t80 x8 fun t85 =>
  fadT 1 t85 fun t86 =>
  stT t86 t84 w fun w26 =>
  Fspec_l71Method.j2 x0 x6 x7 w26 R)
  (Fspec_l71Method.j2 x0 x6 x7 w R)
def Fspec_l71Method.r3 (x0 x1 x6 x7 x8 x9 : Value) (w : World) (R : VW) : Prop := ∀ _ : Env,
  ldsT 3 x6 w fun r40 =>
  R r40 w
def Fspec_l71Method.j4 (x0 x1 x6 x7 x8 x9 x10 : Value) (w : World) (Kn Kb Kr : LW) : Prop := ∀ _ : Env,
  fadT 2 x7 fun t65 =>
  ldT t65 w fun t66 =>
  lenT t66 fun t67 =>
  lenT x10 fun t69 =>
  binT .add t67 t69 fun t70 =>
  binT .leq t70 (.int .i64 12) fun t71 =>
  condT t71
  (fadT 2 x7 fun t72 =>
  ldT t72 w fun t73 =>
  opT PR (Builtin.append_ #[85, 85] 85 #[t73, x10]) w fun t75 w58 =>
  fadT 2 x7 fun t76 =>
  stT t76 t75 w58 fun w59 =>
  binT .add x9 (.int .i64 1) fun t28 =>
  Kn [x0, x1, x6, x7, x8, t28] w59)
  (binT .add x9 (.int .i64 1) fun t28 =>
  Kn [x0, x1, x6, x7, x8, t28] w)
def Fspec_l71Method.l4 (x0 x1 x6 x7 x8 x9 : Value) (w : World) (Kn Kb Kr : LW) : Prop := ∀ _ : Env,
  binT .lss x9 (.int .i64 4) fun t26 =>
  condT t26
  (fadT 1 x7 fun t31 =>
  ldT t31 w fun t32 =>
  clT PR 268 [x0, x1, t32] w fun t33 w52 =>
  binT .lss x8 (.int .i64 0) fun t35 =>
  condT t35
  (clT PR 160 [x0, (.int .i64 6)] w52 fun t38 w53 =>
  binT .eql t38 (.int .i64 0) fun t39 =>
  condT t39
  (fadT 2 x7 fun t42 =>
  ldT t42 w53 fun t43 =>
  lenT t43 fun t44 =>
  lenT t33 fun t46 =>
  binT .add t44 t46 fun t47 =>
  binT .leq t47 (.int .i64 10) fun t48 =>
  condT t48
  (fadT 2 x7 fun t50 =>
  ldT t50 w53 fun t51 =>
  lenT t51 fun t52 =>
  binT .add t52 (.int .i64 1) fun t53 =>
  fadT 2 x7 fun t54 =>
  ldT t54 (w53.drew) fun t55 =>
  fadT 1 x7 fun t57 =>
  ldT t57 (w53.drew) fun t58 =>
  bldT #[(.int .i64 0), (.int .i64 0)] [(0, 1, (.int .i64 8))] fun t61 =>
  clT PR 160 [x0, t58] (w53.drew) fun t59 w54 =>
  (ldT t54 w54 fun u => u = t55) ∧
  bldT #[(.int .i64 0), (.int .i64 0)] [(0, 1, (.int .i64 2)), (1, 1, t59)] fun t60 =>
  bslT 76 2 2 #[(.int .i64 0), (.int .i64 0)] [(0, 2, t60), (2, 2, t61)] w54 fun t62 w55 =>
  (ldT t54 w55 fun u => u = t55) ∧
  opT PR (Builtin.append_ #[85, 85] 85 #[t55, t62]) w55 fun t63 w56 =>
  fadT 2 x7 fun t64 =>
  stT t64 t63 w56 fun w57 =>
  Fspec_l71Method.j4 x0 x1 x6 x7 t53 x9 t33 w57 Kn Kb Kr)
  (Fspec_l71Method.j4 x0 x1 x6 x7 x8 x9 t33 w53 Kn Kb Kr))
  (Fspec_l71Method.j4 x0 x1 x6 x7 x8 x9 t33 w53 Kn Kb Kr))
  (Fspec_l71Method.j4 x0 x1 x6 x7 x8 x9 t33 w52 Kn Kb Kr))
  (Kb [x0, x1, x6, x7, x8, x9] w)
def Fspec_l71Method.j6 (x6 x7 : Value) (w : World) (R : VW) : Prop := ∀ _ : Env,
  fadT 2 x7 fun t106 =>
  ldT t106 w fun t107 =>
  bldT #[(.int .i64 0), (.int .i64 0)] [(0, 1, (.int .i64 10))] fun t108 =>
  bslT 76 1 2 #[(.int .i64 0), (.int .i64 0)] [(0, 2, t108)] w fun t109 w65 =>
  opT PR (Builtin.append_ #[85, 85] 85 #[t107, t109]) w65 fun t110 w66 =>
  fadT 2 x7 fun t111 =>
  stT t111 t110 w66 fun w67 =>
  ldsT 3 x7 w67 fun t112 =>
  stsT 3 x6 t112 w67 fun w68 =>
  ldsT 3 x6 w68 fun r69 =>
  R r69 w68
def Fspec_l71Method.j5 (x0 x6 x7 : Value) (w : World) (R : VW) : Prop := ∀ _ : Env,
  clT PR 160 [x0, (.int .i64 3)] w fun t88 w61 =>
  binT .eql t88 (.int .i64 0) fun t89 =>
  condT t89
  (fadT 2 x7 fun t90 =>
  ldT t90 w61 fun t91 =>
  bldT #[(.int .i64 0), (.int .i64 0)] [(0, 1, (.int .i64 11))] fun t92 =>
  bslT 76 1 2 #[(.int .i64 0), (.int .i64 0)] [(0, 2, t92)] w61 fun t93 w62 =>
  opT PR (Builtin.append_ #[85, 85] 85 #[t91, t93]) w62 fun t94 w63 =>
  fadT 2 x7 fun t95 =>
  stT t95 t94 w63 fun w64 =>
  Fspec_l71Method.j6 x6 x7 w64 R)
  (fadT 2 x7 fun t96 =>
  ldT t96 (w61.drew) fun t97 =>
  fadT 1 x7 fun t99 =>
  ldT t99 (w61.drew) fun t100 =>
  clT PR 160 [x0, t100] (w61.drew) fun t101 w70 =>
  (ldT t96 w70 fun u => u = t97) ∧
  bldT #[(.int .i64 0), (.int .i64 0)] [(0, 1, (.int .i64 2)), (1, 1, t101)] fun t102 =>
  bslT 76 1 2 #[(.int .i64 0), (.int .i64 0)] [(0, 2, t102)] w70 fun t103 w71 =>
  (ldT t96 w71 fun u => u = t97) ∧
  opT PR (Builtin.append_ #[85, 85] 85 #[t97, t103]) w71 fun t104 w72 =>
  fadT 2 x7 fun t105 =>
  stT t105 t104 w72 fun w73 =>
  Fspec_l71Method.j6 x6 x7 w73 R)
def Fspec_l71Method.k5 (x0 x1 x6 x7 x8 x9 : Value) (w : World) (R : VW) : Prop := ∀ _ : Env,
  binT .geq x8 (.int .i64 0) fun t78 =>
  condT t78
  (fadT 2 x7 fun t79 =>
  ldT t79 w fun t80 =>
  fadT 2 x7 fun t82 =>
  ldT t82 w fun t83 =>
  lenT t83 fun t84 =>
  ixaT 2 t80 x8 fun t85 =>
  fadT 1 t85 fun t86 =>
  stT t86 t84 w fun w60 =>
  Fspec_l71Method.j5 x0 x6 x7 w60 R)
  (Fspec_l71Method.j5 x0 x6 x7 w R)
def Fspec_l71Method.j7 (x0 x1 x6 x7 x8 x9 x10 : Value) (w : World) (Kn Kb Kr : LW) : Prop := ∀ _ : Env,
  fadT 2 x7 fun t65 =>
  ldT t65 w fun t66 =>
  lenT t66 fun t67 =>
  lenT x10 fun t69 =>
  binT .add t67 t69 fun t70 =>
  binT .leq t70 (.int .i64 12) fun t71 =>
  condT t71
  (fadT 2 x7 fun t72 =>
  ldT t72 w fun t73 =>
  opT PR (Builtin.append_ #[85, 85] 85 #[t73, x10]) w fun t75 w94 =>
  fadT 2 x7 fun t76 =>
  stT t76 t75 w94 fun w95 =>
  binT .add x9 (.int .i64 1) fun t28 =>
  Kn [x0, x1, x6, x7, x8, t28] w95)
  (binT .add x9 (.int .i64 1) fun t28 =>
  Kn [x0, x1, x6, x7, x8, t28] w)
def Fspec_l71Method.l6 (x0 x1 x6 x7 x8 x9 : Value) (w : World) (Kn Kb Kr : LW) : Prop := ∀ _ : Env,
  binT .lss x9 (.int .i64 4) fun t26 =>
  condT t26
  (fadT 1 x7 fun t31 =>
  ldT t31 w fun t32 =>
  clT PR 268 [x0, x1, t32] w fun t33 w88 =>
  binT .lss x8 (.int .i64 0) fun t35 =>
  condT t35
  (clT PR 160 [x0, (.int .i64 6)] w88 fun t38 w89 =>
  binT .eql t38 (.int .i64 0) fun t39 =>
  condT t39
  (fadT 2 x7 fun t42 =>
  ldT t42 w89 fun t43 =>
  lenT t43 fun t44 =>
  lenT t33 fun t46 =>
  binT .add t44 t46 fun t47 =>
  binT .leq t47 (.int .i64 10) fun t48 =>
  condT t48
  (fadT 2 x7 fun t50 =>
  ldT t50 w89 fun t51 =>
  lenT t51 fun t52 =>
  binT .add t52 (.int .i64 1) fun t53 =>
  fadT 2 x7 fun t54 =>
  ldT t54 (w89.drew) fun t55 =>
  fadT 1 x7 fun t57 =>
  ldT t57 (w89.drew) fun t58 =>
  bldT #[(.int .i64 0), (.int .i64 0)] [(0, 1, (.int .i64 8))] fun t61 =>
  clT PR 160 [x0, t58] (w89.drew) fun t59 w90 =>
  (ldT t54 w90 fun u => u = t55) ∧
  bldT #[(.int .i64 0), (.int .i64 0)] [(0, 1, (.int .i64 2)), (1, 1, t59)] fun t60 =>
  bslT 76 2 2 #[(.int .i64 0), (.int .i64 0)] [(0, 2, t60), (2, 2, t61)] w90 fun t62 w91 =>
  (ldT t54 w91 fun u => u = t55) ∧
  opT PR (Builtin.append_ #[85, 85] 85 #[t55, t62]) w91 fun t63 w92 =>
  fadT 2 x7 fun t64 =>
  stT t64 t63 w92 fun w93 =>
  Fspec_l71Method.j7 x0 x1 x6 x7 t53 x9 t33 w93 Kn Kb Kr)
  (Fspec_l71Method.j7 x0 x1 x6 x7 x8 x9 t33 w89 Kn Kb Kr))
  (Fspec_l71Method.j7 x0 x1 x6 x7 x8 x9 t33 w89 Kn Kb Kr))
  (Fspec_l71Method.j7 x0 x1 x6 x7 x8 x9 t33 w88 Kn Kb Kr))
  (Kb [x0, x1, x6, x7, x8, x9] w)
def Fspec_l71Method.j9 (x6 x7 : Value) (w : World) (R : VW) : Prop := ∀ _ : Env,
  fadT 2 x7 fun t106 =>
  ldT t106 w fun t107 =>
  bldT #[(.int .i64 0), (.int .i64 0)] [(0, 1, (.int .i64 10))] fun t108 =>
  bslT 76 1 2 #[(.int .i64 0), (.int .i64 0)] [(0, 2, t108)] w fun t109 w101 =>
  opT PR (Builtin.append_ #[85, 85] 85 #[t107, t109]) w101 fun t110 w102 =>
  fadT 2 x7 fun t111 =>
  stT t111 t110 w102 fun w103 =>
  ldsT 3 x7 w103 fun t112 =>
  stsT 3 x6 t112 w103 fun w104 =>
  ldsT 3 x6 w104 fun r105 =>
  R r105 w104
def Fspec_l71Method.j8 (x0 x6 x7 : Value) (w : World) (R : VW) : Prop := ∀ _ : Env,
  clT PR 160 [x0, (.int .i64 3)] w fun t88 w97 =>
  binT .eql t88 (.int .i64 0) fun t89 =>
  condT t89
  (fadT 2 x7 fun t90 =>
  ldT t90 w97 fun t91 =>
  bldT #[(.int .i64 0), (.int .i64 0)] [(0, 1, (.int .i64 11))] fun t92 =>
  bslT 76 1 2 #[(.int .i64 0), (.int .i64 0)] [(0, 2, t92)] w97 fun t93 w98 =>
  opT PR (Builtin.append_ #[85, 85] 85 #[t91, t93]) w98 fun t94 w99 =>
  fadT 2 x7 fun t95 =>
  stT t95 t94 w99 fun w100 =>
  Fspec_l71Method.j9 x6 x7 w100 R)
  (fadT 2 x7 fun t96 =>
  ldT t96 (w97.drew) fun t97 =>
  fadT 1 x7 fun t99 =>
  ldT t99 (w97.drew) fun t100 =>
  clT PR 160 [x0, t100] (w97.drew) fun t101 w106 =>
  (ldT t96 w106 fun u => u = t97) ∧
  bldT #[(.int .i64 0), (.int .i64 0)] [(0, 1, (.int .i64 2)), (1, 1, t101)] fun t102 =>
  bslT 76 1 2 #[(.int .i64 0), (.int .i64 0)] [(0, 2, t102)] w106 fun t103 w107 =>
  (ldT t96 w107 fun u => u = t97) ∧
  opT PR (Builtin.append_ #[85, 85] 85 #[t97, t103]) w107 fun t104 w108 =>
  fadT 2 x7 fun t105 =>
  stT t105 t104 w108 fun w109 =>
  Fspec_l71Method.j9 x6 x7 w109 R)
def Fspec_l71Method.k7 (x0 x1 x6 x7 x8 x9 : Value) (w : World) (R : VW) : Prop := ∀ _ : Env,
  binT .geq x8 (.int .i64 0) fun t78 =>
  condT t78
  (fadT 2 x7 fun t79 =>
  ldT t79 w fun t80 =>
  fadT 2 x7 fun t82 =>
  ldT t82 w fun t83 =>
  lenT t83 fun t84 =>
  ixaT 2 t80 x8 fun t85 =>
  fadT 1 t85 fun t86 =>
  stT t86 t84 w fun w96 =>
  Fspec_l71Method.j8 x0 x6 x7 w96 R)
  (Fspec_l71Method.j8 x0 x6 x7 w R)
def Fspec_l71Method (t0 t1 t2 : Value) (w : World) (R : VW) : Prop :=
  allocT 87 #[(.int .i64 0), (.int .i64 0), (.slice none 0 0)] w fun t6 w1 =>
  ixaT 1 t1 t2 fun t13 =>
  ldT t13 (w1.drew) fun t14 =>
  ixaT 1 t1 t2 fun t17 =>
  ldT t17 (w1.drew) fun t18 =>
  arT [(87, #[(.int .i64 0), (.int .i64 0), (.slice none 0 0)])] (w1.drew) [none] fun w2 s3 =>
  (clT PR 160 [t0, (.int .i64 3)] w2 fun t20 w4 =>
  (ldT t17 w4 fun u => u = t18) ∧
  (ldT t13 w4 fun u => u = t14) ∧
  binT .add (.int .i64 1) t20 fun t21 =>
  arT [(87, #[(.int .i64 0), (.int .i64 0), (.slice none 0 0)])] w4 s3 fun w5 s6 =>
  (opT PR (Builtin.max_ #[3, 3] 3 #[t18, t21]) w5 fun t22 w7 =>
  (ldT t13 w7 fun u => u = t14) ∧
  arT [(87, #[(.int .i64 0), (.int .i64 0), (.slice none 0 0)])] w7 s6 fun w8 s9 =>
  bslT 76 0 2 #[] [] w8 fun t23 w10 =>
  (ldT t17 w10 fun u => u = t18) ∧
  (ldT t13 w10 fun u => u = t14) ∧
  bldT #[(.int .i64 0), (.int .i64 0), (.slice none 0 0)] [(0, 1, t14), (1, 1, t22), (2, 1, t23)] fun t24 =>
  arT [(87, #[(.int .i64 0), (.int .i64 0), (.slice none 0 0)])] w10 s9 fun w11 s12 =>
  ndT s12 0 fun b13 =>
  stsT 3 (.pointer (some ⟨b13, 0, none⟩)) t24 w11 fun w14 =>
  arT [(87, #[(.int .i64 0), (.int .i64 0), (.slice none 0 0)])] w14 s12 fun w15 s16 =>
  ndT s16 0 fun b17 =>
  loopT (fun s w Kn Kb Kr => Fspec_l71Method.l1 (s.headD undef) (s.tail.headD undef) (s.tail.tail.headD undef) (s.tail.tail.tail.headD undef) (s.tail.tail.tail.tail.headD undef) (s.tail.tail.tail.tail.tail.headD undef) w Kn Kb Kr) [t0, t1, t6, (.pointer (some ⟨b17, 0, none⟩)), (.int .i64 (-1)), (.int .i64 0)] w15
  (fun s w => Fspec_l71Method.k2 (s.headD undef) (s.tail.headD undef) (s.tail.tail.headD undef) (s.tail.tail.tail.headD undef) (s.tail.tail.tail.tail.headD undef) (s.tail.tail.tail.tail.tail.headD undef) w R)
  (fun s w => Fspec_l71Method.r3 (s.headD undef) (s.tail.headD undef) (s.tail.tail.headD undef) (s.tail.tail.tail.headD undef) (s.tail.tail.tail.tail.headD undef) (s.tail.tail.tail.tail.tail.headD undef) w R)) ∧
  (bslT 76 0 2 #[] [] w5 fun t23 w41 =>
  (ldT t17 w41 fun u => u = t18) ∧
  (ldT t13 w41 fun u => u = t14) ∧
  arT [(87, #[(.int .i64 0), (.int .i64 0), (.slice none 0 0)])] w41 s6 fun w42 s43 =>
  opT PR (Builtin.max_ #[3, 3] 3 #[t18, t21]) w42 fun t22 w44 =>
  (ldT t13 w44 fun u => u = t14) ∧
  bldT #[(.int .i64 0), (.int .i64 0), (.slice none 0 0)] [(0, 1, t14), (1, 1, t22), (2, 1, t23)] fun t24 =>
  arT [(87, #[(.int .i64 0), (.int .i64 0), (.slice none 0 0)])] w44 s43 fun w45 s46 =>
  ndT s46 0 fun b47 =>
  stsT 3 (.pointer (some ⟨b47, 0, none⟩)) t24 w45 fun w48 =>
  arT [(87, #[(.int .i64 0), (.int .i64 0), (.slice none 0 0)])] w48 s46 fun w49 s50 =>
  ndT s50 0 fun b51 =>
  loopT (fun s w Kn Kb Kr => Fspec_l71Method.l4 (s.headD undef) (s.tail.headD undef) (s.tail.tail.headD undef) (s.tail.tail.tail.headD undef) (s.tail.tail.tail.tail.headD undef) (s.tail.tail.tail.tail.tail.headD undef) w Kn Kb Kr) [t0, t1, t6, (.pointer (some ⟨b51, 0, none⟩)), (.int .i64 (-1)), (.int .i64 0)] w49
  (fun s w => Fspec_l71Method.k5 (s.headD undef) (s.tail.headD undef) (s.tail.tail.headD undef) (s.tail.tail.tail.headD undef) (s.tail.tail.tail.tail.headD undef) (s.tail.tail.tail.tail.tail.headD undef) w R)
  (fun s w => Fspec_l71Method.r3 (s.headD undef) (s.tail.headD undef) (s.tail.tail.headD undef) (s.tail.tail.tail.headD undef) (s.tail.tail.tail.tail.headD undef) (s.tail.tail.tail.tail.tail.headD undef) w R))) ∧
  (bslT 76 0 2 #[] [] w2 fun t23 w74 =>
  (ldT t17 w74 fun u => u = t18) ∧
  (ldT t13 w74 fun u => u = t14) ∧
  arT [(87, #[(.int .i64 0), (.int .i64 0), (.slice none 0 0)])] w74 s3 fun w75 s76 =>
  clT PR 160 [t0, (.int .i64 3)] w75 fun t20 w77 =>
  (ldT t17 w77 fun u => u = t18) ∧
  (ldT t13 w77 fun u => u = t14) ∧
  binT .add (.int .i64 1) t20 fun t21 =>
  arT [(87, #[(.int .i64 0), (.int .i64 0), (.slice none 0 0)])] w77 s76 fun w78 s79 =>
  opT PR (Builtin.max_ #[3, 3] 3 #[t18, t21]) w78 fun t22 w80 =>
  (ldT t13 w80 fun u => u = t14) ∧
  bldT #[(.int .i64 0), (.int .i64 0), (.slice none 0 0)] [(0, 1, t14), (1, 1, t22), (2, 1, t23)] fun t24 =>
  arT [(87, #[(.int .i64 0), (.int .i64 0), (.slice none 0 0)])] w80 s79 fun w81 s82 =>
  ndT s82 0 fun b83 =>
  stsT 3 (.pointer (some ⟨b83, 0, none⟩)) t24 w81 fun w84 =>
  arT [(87, #[(.int .i64 0), (.int .i64 0), (.slice none 0 0)])] w84 s82 fun w85 s86 =>
  ndT s86 0 fun b87 =>
  loopT (fun s w Kn Kb Kr => Fspec_l71Method.l6 (s.headD undef) (s.tail.headD undef) (s.tail.tail.headD undef) (s.tail.tail.tail.headD undef) (s.tail.tail.tail.tail.headD undef) (s.tail.tail.tail.tail.tail.headD undef) w Kn Kb Kr) [t0, t1, t6, (.pointer (some ⟨b87, 0, none⟩)), (.int .i64 (-1)), (.int .i64 0)] w85
  (fun s w => Fspec_l71Method.k7 (s.headD undef) (s.tail.headD undef) (s.tail.tail.headD undef) (s.tail.tail.tail.headD undef) (s.tail.tail.tail.tail.headD undef) (s.tail.tail.tail.tail.tail.headD undef) w R)
  (fun s w => Fspec_l71Method.r3 (s.headD undef) (s.tail.headD undef) (s.tail.tail.headD undef) (s.tail.tail.tail.headD undef) (s.tail.tail.tail.tail.headD undef) (s.tail.tail.tail.tail.tail.headD undef) w R))
def Fspec_l71Method.H : Hints := {draw := fun i => match i with | 1 => { T := [0, 0, 3, 7, 0, 0, 48, 112, 0, 256, 768, 2032, 0, 8191, 0, 32767], F := [14] } | 9 => { T := [0, 1, 0, 0, 8, 28, 60, 0, 252, 511, 1023, 2047] } | 16 => { T := [0, 1, 0, 0, 8, 28, 60, 124, 255, 511, 1023] } | _ => {}, loop := fun i => match i with | 4 => some (0, [0, 1, 6, 7, 8, 9]) | _ => none, join := fun i => match i with | 49 => some [0, 1, 6, 7, 8, 9, 10] | 78 => some [0, 6, 7] | 89 => some [6, 7] | _ => none}
theorem Fspec_l71Method.eq (t0 t1 t2 : Value) : trF PR CX Fspec_l71Method.H Tryz.f230 [t0, t1, t2] = Fspec_l71Method t0 t1 t2 := by kernel_rfl
theorem Fspec_l71Method.cl {t0 t1 t2 : Value} {w : World} {R : VW} (h : Fspec_l71Method t0 t1 t2 w R) : clT PR 230 [t0, t1, t2] w R := cl_of_tr (H := Fspec_l71Method.H) ctxOk Tryz.func230 rfl (by rw [Fspec_l71Method.eq]; exact h)

/-! function 268: spec_l71Part -/
def Fspec_l71Part.j4 (x0 x1 x2 x10 x22 : Value) (w : World) (R : VW) : Prop := ∀ _ : Env,
  clT PR 160 [x0, (.int .i64 50)] w fun t97 w37 =>
  clT PR 160 [x0, (.int .i64 50)] w37 fun t99 w38 =>
  bslT 3 8 1 #[(.int .i64 0)] [(0, 1, (.int .i64 1)), (1, 1, t97), (2, 1, (.int .i64 1)), (3, 1, t99), (4, 1, (.int .i64 5)), (5, 1, (.int .i64 0)), (6, 1, (.int .i64 16)), (7, 1, (.int .i64 0))] w38 fun t100 w39 =>
  clT PR 288 [t100] w39 fun t101 w40 =>
  R t101 w40
def Fspec_l71Part.j3 (x0 x2 x10 x47 : Value) (w : World) (R : VW) : Prop := ∀ _ : Env,
  Fspec_l71Part.j4 x0 undef x2 x10 undef w R
def Fspec_l71Part.j2 (x0 x2 x10 x47 : Value) (w : World) (R : VW) : Prop := ∀ _ : Env,
  condT x47
  (clT PR 291 [x0, x2] w fun t52 w15 =>
  clT PR 289 [x0, x2] w15 fun t55 w16 =>
  bslT 76 1 2 #[(.int .i64 0), (.int .i64 0)] [(0, 2, t55)] w16 fun t56 w17 =>
  opT PR (Builtin.append_ #[85, 85] 85 #[t52, t56]) w17 fun t57 w18 =>
  R t57 w18)
  (binT .eql x10 (.int .i64 6) fun t59 =>
  condT t59
  (clT PR 160 [x0, x2] w fun t62 w19 =>
  bslT 3 4 1 #[(.int .i64 0)] [(0, 1, (.int .i64 11)), (1, 1, (.int .i64 0)), (2, 1, (.int .i64 3)), (3, 1, t62)] w19 fun t63 w20 =>
  clT PR 288 [t63] w20 fun t64 w21 =>
  R t64 w21)
  (binT .eql x10 (.int .i64 7) fun t66 =>
  condT t66
  (clT PR 160 [x0, (.int .i64 2)] w fun t68 w22 =>
  binT .eql t68 (.int .i64 0) fun t69 =>
  condT t69
  (clT PR 160 [x0, (.int .i64 9)] w22 fun t71 w23 =>
  clT PR 160 [x0, (.int .i64 4)] w23 fun t73 w24 =>
  bslT 3 8 1 #[(.int .i64 0)] [(0, 1, (.int .i64 11)), (1, 1, (.int .i64 0)), (2, 1, (.int .i64 12)), (3, 1, (.int .i64 0)), (4, 1, (.int .i64 1)), (5, 1, t71), (6, 1, (.int .i64 14)), (7, 1, t73)] w24 fun t74 w25 =>
  clT PR 288 [t74] w25 fun t75 w26 =>
  R t75 w26)
  (clT PR 160 [x0, x2] w22 fun t78 w27 =>
  clT PR 160 [x0, x2] w27 fun t81 w28 =>
  bslT 3 8 1 #[(.int .i64 0)] [(0, 1, (.int .i64 2)), (1, 1, t78), (2, 1, (.int .i64 2)), (3, 1, t81), (4, 1, (.int .i64 6)), (5, 1, (.int .i64 0)), (6, 1, (.int .i64 16)), (7, 1, (.int .i64 0))] w28 fun t82 w29 =>
  clT PR 288 [t82] w29 fun t83 w30 =>
  R t83 w30))
  (binT .eql x10 (.int .i64 8) fun t85 =>
  condT t85
  (clT PR 160 [x0, x2] w fun t88 w31 =>
  clT PR 160 [x0, (.int .i64 9)] w31 fun t90 w32 =>
  bslT 3 6 1 #[(.int .i64 0)] [(0, 1, (.int .i64 2)), (1, 1, t88), (2, 1, (.int .i64 1)), (3, 1, t90), (4, 1, (.int .i64 15)), (5, 1, (.int .i64 0))] w32 fun t91 w33 =>
  clT PR 288 [t91] w33 fun t92 w34 =>
  bldT #[(.int .i64 0), (.int .i64 0)] [(0, 1, (.int .i64 4))] fun t93 =>
  bslT 76 1 2 #[(.int .i64 0), (.int .i64 0)] [(0, 2, t93)] w34 fun t94 w35 =>
  opT PR (Builtin.append_ #[85, 85] 85 #[t92, t94]) w35 fun t95 w36 =>
  R t95 w36)
  (Fspec_l71Part.j3 x0 x2 x10 x47 w R))))
def Fspec_l71Part.j1 (x0 x1 x2 x10 x22 : Value) (w : World) (R : VW) : Prop := ∀ _ : Env,
  condT x22
  (lenT x1 fun t28 =>
  clT PR 160 [x0, t28] w fun t29 w8 =>
  ixaT 1 x1 t29 fun t33 =>
  ldT t33 w8 fun t34 =>
  clT PR 290 [x0, t34, x2] w8 fun t36 w9 =>
  bldT #[(.int .i64 0), (.int .i64 0)] [(0, 1, (.int .i64 9)), (1, 1, t29)] fun t38 =>
  bslT 76 1 2 #[(.int .i64 0), (.int .i64 0)] [(0, 2, t38)] w9 fun t39 w10 =>
  opT PR (Builtin.append_ #[85, 85] 85 #[t36, t39]) w10 fun t40 w11 =>
  clT PR 289 [x0, x2] w11 fun t44 w12 =>
  bslT 76 1 2 #[(.int .i64 0), (.int .i64 0)] [(0, 2, t44)] w12 fun t45 w13 =>
  opT PR (Builtin.append_ #[85, 85] 85 #[t40, t45]) w13 fun t46 w14 =>
  R t46 w14)
  (binT .eql x10 (.int .i64 4) fun t48 =>
  condT t48
  (Fspec_l71Part.j2 x0 x2 x10 t48 w R)
  (binT .eql x10 (.int .i64 5) fun t49 =>
  Fspec_l71Part.j2 x0 x2 x10 t49 w R))
def Fspec_l71Part.j5 (x0 x1 x2 x10 x22 : Value) (w : World) (R : VW) : Prop := ∀ _ : Env,
  Fspec_l71Part.j1 x0 x1 x2 x10 x22 w R
def Fspec_l71Part (t0 t1 t2 : Value) (w : World) (R : VW) : Prop :=
  clT PR 160 [t0, (.int .i64 10)] w fun t10 w1 =>
  binT .eql t10 (.int .i64 0) fun t12 =>
  condT t12
  (clT PR 160 [t0, (.int .i64 20)] w1 fun t14 w2 =>
  bslT 3 2 1 #[(.int .i64 0)] [(0, 1, (.int .i64 1)), (1, 1, t14)] w2 fun t15 w3 =>
  clT PR 288 [t15] w3 fun t16 w4 =>
  clT PR 289 [t0, t2] w4 fun t19 w5 =>
  bslT 76 1 2 #[(.int .i64 0), (.int .i64 0)] [(0, 2, t19)] w5 fun t20 w6 =>
  opT PR (Builtin.append_ #[85, 85] 85 #[t16, t20]) w6 fun t21 w7 =>
  R t21 w7)
  (binT .eql t10 (.int .i64 1) fun t23 =>
  condT t23
  (Fspec_l71Part.j1 t0 t1 t2 t10 t23 w1 R)
  (binT .eql t10 (.int .i64 2) fun t24 =>
  condT t24
  (Fspec_l71Part.j5 t0 t1 t2 t10 t24 w1 R)
  (binT .eql t10 (.int .i64 3) fun t25 =>
  Fspec_l71Part.j5 t0 t1 t2 t10 t25 w1 R)))
def Fspec_l71Part.H : Hints := {join := fun i => match i with | 22 => some [0, 1, 2, 10, 22] | 47 => some [0, 2, 10, 47] | _ => none}
theorem Fspec_l71Part.eq (t0 t1 t2 : Value) : trF PR CX Fspec_l71Part.H Tryz.f268 [t0, t1, t2] = Fspec_l71Part t0 t1 t2 := by kernel_rfl
theorem Fspec_l71Part.cl {t0 t1 t2 : Value} {w : World} {R : VW} (h : Fspec_l71Part t0 t1 t2 w R) : clT PR 268 [t0, t1, t2] w R := cl_of_tr (H := Fspec_l71Part.H) ctxOk Tryz.func268 rfl (by rw [Fspec_l71Part.eq]; exact h)

/-! function 288: spec_l71Ops -/
def Fspec_l71Ops.l1 (x0 x2 x3 x4 : Value) (w : World) (Kn Kb Kr : LW) : Prop := ∀ _ : Env,
  binT .add x4 (.int .i64 1) fun t7 =>
  lenT x0 fun t9 =>
  binT .lss t7 t9 fun t10 =>
  condT t10
  (ixaT 1 x0 x4 fun t16 =>
  ldT t16 (w.drew) fun t17 =>
  binT .add x4 (.int .i64 1) fun t20 =>
  ixaT 1 x0 t20 fun t21 =>
  ldT t21 (w.drew) fun t22 =>
  bldT #[(.int .i64 0), (.int .i64 0)] [(0, 1, t17), (1, 1, t22)] fun t23 =>
  bslT 76 1 2 #[(.int .i64 0), (.int .i64 0)] [(0, 2, t23)] (w.drew) fun t24 w2 =>
  opT PR (Builtin.append_ #[85, 85] 85 #[x3, t24]) w2 fun t25 w3 =>
  binT .add x4 (.int .i64 2) fun t12 =>
  Kn [x0, x2, t25, t12] w3)
  (Kb [x0, x2, x3, x4] w)
def Fspec_l71Ops.k2 (x0 x2 x3 x4 : Value) (w : World) (R : VW) : Prop := ∀ _ : Env,
  R x3 w
def Fspec_l71Ops.r3 (x0 x2 x3 x4 : Value) (w : World) (R : VW) : Prop := ∀ _ : Env,
  R x2 w
def Fspec_l71Ops (t0 : Value) (w : World) (R : VW) : Prop :=
  bslT 76 0 2 #[] [] w fun t5 w1 =>
  loopT (fun s w Kn Kb Kr => Fspec_l71Ops.l1 (s.headD undef) (s.tail.headD undef) (s.tail.tail.headD undef) (s.tail.tail.tail.headD undef) w Kn Kb Kr) [t0, (.slice none 0 0), t5, (.int .i64 0)] w1
  (fun s w => Fspec_l71Ops.k2 (s.headD undef) (s.tail.headD undef) (s.tail.tail.headD undef) (s.tail.tail.tail.headD undef) w R)
  (fun s w => Fspec_l71Ops.r3 (s.headD undef) (s.tail.headD undef) (s.tail.tail.headD undef) (s.tail.tail.tail.headD undef) w R)
def Fspec_l71Ops.H : Hints := {draw := fun i => match i with | 5 => { T := [0, 0, 0, 6, 14, 0, 0, 64, 224, 480, 1022, 2046, 4095, 8191] } | _ => {}, loop := fun i => match i with | 3 => some (0, [0, 2, 3, 4]) | _ => none}
theorem Fspec_l71Ops.eq (t0 : Value) : trF PR CX Fspec_l71Ops.H Tryz.f288 [t0] = Fspec_l71Ops t0 := by kernel_rfl
theorem Fspec_l71Ops.cl {t0 : Value} {w : World} {R : VW} (h : Fspec_l71Ops t0 w R) : clT PR 288 [t0] w R := cl_of_tr (H := Fspec_l71Ops.H) ctxOk Tryz.func288 rfl (by rw [Fspec_l71Ops.eq]; exact h)

/-! function 289: spec_l71End -/
def Fspec_l71End.j2 (x0 x1 x4 x10 : Value) (w : World) (R : VW) : Prop := ∀ _ : Env,
  clT PR 160 [x0, x1] w fun t16 w7 =>
  bldT #[(.int .i64 0), (.int .i64 0)] [(0, 1, (.int .i64 3)), (1, 1, t16)] fun t17 =>
  stsT 2 x4 t17 w7 fun w8 =>
  ldsT 2 x4 w8 fun r9 =>
  R r9 w8
def Fspec_l71End.j1 (x0 x1 x4 x10 : Value) (w : World) (R : VW) : Prop := ∀ _ : Env,
  condT x10
  (bldT #[(.int .i64 0), (.int .i64 0)] [(0, 1, (.int .i64 16))] fun t13 =>
  stsT 2 x4 t13 w fun w5 =>
  ldsT 2 x4 w5 fun r6 =>
  R r6 w5)
  (Fspec_l71End.j2 x0 x1 x4 x10 w R)
def Fspec_l71End (t0 t1 : Value) (w : World) (R : VW) : Prop :=
  allocT 76 #[(.int .i64 0), (.int .i64 0)] w fun t4 w1 =>
  clT PR 160 [t0, (.int .i64 4)] w1 fun t6 w2 =>
  binT .eql t6 (.int .i64 0) fun t8 =>
  condT t8
  (bldT #[(.int .i64 0), (.int .i64 0)] [(0, 1, (.int .i64 4))] fun t9 =>
  stsT 2 t4 t9 w2 fun w3 =>
  ldsT 2 t4 w3 fun r4 =>
  R r4 w3)
  (binT .eql t6 (.int .i64 1) fun t11 =>
  condT t11
  (Fspec_l71End.j1 t0 t1 t4 t11 w2 R)
  (binT .eql t6 (.int .i64 2) fun t12 =>
  Fspec_l71End.j1 t0 t1 t4 t12 w2 R))
def Fspec_l71End.H : Hints := {join := fun i => match i with | 10 => some [0, 1, 4, 10] | _ => none}
theorem Fspec_l71End.eq (t0 t1 : Value) : trF PR CX Fspec_l71End.H Tryz.f289 [t0, t1] = Fspec_l71End t0 t1 := by kernel_rfl
theorem Fspec_l71End.cl {t0 t1 : Value} {w : World} {R : VW} (h : Fspec_l71End t0 t1 w R) : clT PR 289 [t0, t1] w R := cl_of_tr (H := Fspec_l71End.H) ctxOk Tryz.func289 rfl (by rw [Fspec_l71End.eq]; exact h)

/-! function 290: spec_l71Args -/
def Fspec_l71Args.l1 (x0 x1 x2 x6 x7 x8 : Value) (w : World) (Kn Kb Kr : LW) : Prop := ∀ _ : Env,
  binT .lss x8 x1 fun t12 =>
  condT t12
  (clT PR 160 [x0, (.int .i64 4)] w fun t16 w2 =>
  binT .eql t16 (.int .i64 0) fun t25 =>
  condT t25
  (bldT #[(.int .i64 0), (.int .i64 0)] [(0, 1, (.int .i64 11))] fun t27 =>
  bslT 76 1 2 #[(.int .i64 0), (.int .i64 0)] [(0, 2, t27)] w2 fun t28 w3 =>
  opT PR (Builtin.append_ #[85, 85] 85 #[x7, t28]) w3 fun t29 w4 =>
  binT .add x8 (.int .i64 1) fun t14 =>
  Kn [x0, x1, x2, x6, t29, t14] w4)
  (binT .eql t16 (.int .i64 1) fun t31 =>
  condT t31
  (clT PR 160 [x0, (.int .i64 10)] w2 fun t34 w5 =>
  bldT #[(.int .i64 0), (.int .i64 0)] [(0, 1, (.int .i64 1)), (1, 1, t34)] fun t35 =>
  bslT 76 1 2 #[(.int .i64 0), (.int .i64 0)] [(0, 2, t35)] w5 fun t36 w6 =>
  opT PR (Builtin.append_ #[85, 85] 85 #[x7, t36]) w6 fun t37 w7 =>
  binT .add x8 (.int .i64 1) fun t14 =>
  Kn [x0, x1, x2, x6, t37, t14] w7)
  (clT PR 160 [x0, x2] w2 fun t20 w8 =>
  bldT #[(.int .i64 0), (.int .i64 0)] [(0, 1, (.int .i64 2)), (1, 1, t20)] fun t21 =>
  bslT 76 1 2 #[(.int .i64 0), (.int .i64 0)] [(0, 2, t21)] w8 fun t22 w9 =>
  opT PR (Builtin.append_ #[85, 85] 85 #[x7, t22]) w9 fun t23 w10 =>
  binT .add x8 (.int .i64 1) fun t14 =>
  Kn [x0, x1, x2, x6, t23, t14] w10)))
  (Kb [x0, x1, x2, x6, x7, x8] w)
def Fspec_l71Args.k2 (x0 x1 x2 x6 x7 x8 : Value) (w : World) (R : VW) : Prop := ∀ _ : Env,
  R x7 w
def Fspec_l71Args.r3 (x0 x1 x2 x6 x7 x8 : Value) (w : World) (R : VW) : Prop := ∀ _ : Env,
  R x6 w
def Fspec_l71Args (t0 t1 t2 : Value) (w : World) (R : VW) : Prop :=
  bslT 76 0 2 #[] [] w fun t9 w1 =>
  loopT (fun s w Kn Kb Kr => Fspec_l71Args.l1 (s.headD undef) (s.tail.headD undef) (s.tail.tail.headD undef) (s.tail.tail.tail.headD undef) (s.tail.tail.tail.tail.headD undef) (s.tail.tail.tail.tail.tail.headD undef) w Kn Kb Kr) [t0, t1, t2, (.slice none 0 0), t9, (.int .i64 0)] w1
  (fun s w => Fspec_l71Args.k2 (s.headD undef) (s.tail.headD undef) (s.tail.tail.headD undef) (s.tail.tail.tail.headD undef) (s.tail.tail.tail.tail.headD undef) (s.tail.tail.tail.tail.tail.headD undef) w R)
  (fun s w => Fspec_l71Args.r3 (s.headD undef) (s.tail.headD undef) (s.tail.tail.headD undef) (s.tail.tail.tail.headD undef) (s.tail.tail.tail.tail.headD undef) (s.tail.tail.tail.tail.tail.headD undef) w R)
def Fspec_l71Args.H : Hints := {loop := fun i => match i with | 3 => some (0, [0, 1, 2, 6, 7, 8]) | _ => none}
theorem Fspec_l71Args.eq (t0 t1 t2 : Value) : trF PR CX Fspec_l71Args.H Tryz.f290 [t0, t1, t2] = Fspec_l71Args t0 t1 t2 := by kernel_rfl
theorem Fspec_l71Args.cl {t0 t1 t2 : Value} {w : World} {R : VW} (h : Fspec_l71Args t0 t1 t2 w R) : clT PR 290 [t0, t1, t2] w R := cl_of_tr (H := Fspec_l71Args.H) ctxOk Tryz.func290 rfl (by rw [Fspec_l71Args.eq]; exact h)

/-! function 291: spec_l71Look -/
def Fspec_l71Look.j3 (x0 x5 x23 x30 : Value) (w : World) (R : VW) : Prop := ∀ _ : Env,
  R x5 w
def Fspec_l71Look.j2 (x0 x5 x23 x30 : Value) (w : World) (R : VW) : Prop := ∀ _ : Env,
  condT x30
  (clT PR 160 [x0, (.int .i64 4)] w fun t35 w10 =>
  bldT #[(.int .i64 0), (.int .i64 0)] [(0, 1, (.int .i64 13)), (1, 1, t35)] fun t36 =>
  bslT 76 1 2 #[(.int .i64 0), (.int .i64 0)] [(0, 2, t36)] w10 fun t37 w11 =>
  opT PR (Builtin.append_ #[85, 85] 85 #[x5, t37]) w11 fun t38 w12 =>
  R t38 w12)
  (binT .eql x23 (.int .i64 3) fun t40 =>
  condT t40
  (bldT #[(.int .i64 0), (.int .i64 0)] [(0, 1, (.int .i64 17))] fun t42 =>
  bslT 76 1 2 #[(.int .i64 0), (.int .i64 0)] [(0, 2, t42)] w fun t43 w13 =>
  opT PR (Builtin.append_ #[85, 85] 85 #[x5, t43]) w13 fun t44 w14 =>
  R t44 w14)
  (binT .eql x23 (.int .i64 4) fun t46 =>
  condT t46
  (bldT #[(.int .i64 0), (.int .i64 0)] [(0, 1, (.int .i64 18))] fun t48 =>
  bslT 76 1 2 #[(.int .i64 0), (.int .i64 0)] [(0, 2, t48)] w fun t49 w15 =>
  opT PR (Builtin.append_ #[85, 85] 85 #[x5, t49]) w15 fun t50 w16 =>
  R t50 w16)
  (Fspec_l71Look.j3 x0 x5 x23 x30 w R)))
def Fspec_l71Look.j1 (x0 x5 : Value) (w : World) (R : VW) : Prop := ∀ _ : Env,
  clT PR 160 [x0, (.int .i64 6)] w fun t23 w7 =>
  binT .eql t23 (.int .i64 0) fun t25 =>
  condT t25
  (bldT #[(.int .i64 0), (.int .i64 0)] [(0, 1, (.int .i64 12))] fun t27 =>
  bslT 76 1 2 #[(.int .i64 0), (.int .i64 0)] [(0, 2, t27)] w7 fun t28 w8 =>
  opT PR (Builtin.append_ #[85, 85] 85 #[x5, t28]) w8 fun t29 w9 =>
  R t29 w9)
  (binT .eql t23 (.int .i64 1) fun t31 =>
  condT t31
  (Fspec_l71Look.j2 x0 x5 t23 t31 w7 R)
  (binT .eql t23 (.int .i64 2) fun t32 =>
  Fspec_l71Look.j2 x0 x5 t23 t32 w7 R))
def Fspec_l71Look.j5 (x0 x5 x17 : Value) (w : World) (R : VW) : Prop := ∀ _ : Env,
  Fspec_l71Look.j1 x0 x5 w R
def Fspec_l71Look.j4 (x0 x5 x17 : Value) (w : World) (R : VW) : Prop := ∀ _ : Env,
  condT x17
  (bslT 3 4 1 #[(.int .i64 0)] [(0, 1, (.int .i64 11)), (1, 1, (.int .i64 0)), (2, 1, (.int .i64 12)), (3, 1, (.int .i64 0))] w fun t20 w17 =>
  clT PR 288 [t20] w17 fun t21 w18 =>
  Fspec_l71Look.j5 x0 t21 x17 w18 R)
  (Fspec_l71Look.j5 x0 x5 x17 w R)
def Fspec_l71Look (t0 t1 : Value) (w : World) (R : VW) : Prop :=
  bslT 3 2 1 #[(.int .i64 0)] [(0, 1, (.int .i64 11)), (1, 1, (.int .i64 0))] w fun t6 w1 =>
  clT PR 288 [t6] w1 fun t7 w2 =>
  clT PR 160 [t0, (.int .i64 5)] w2 fun t9 w3 =>
  binT .eql t9 (.int .i64 0) fun t11 =>
  condT t11
  (clT PR 160 [t0, t1] w3 fun t14 w4 =>
  bslT 3 2 1 #[(.int .i64 0)] [(0, 1, (.int .i64 2)), (1, 1, t14)] w4 fun t15 w5 =>
  clT PR 288 [t15] w5 fun t16 w6 =>
  Fspec_l71Look.j1 t0 t16 w6 R)
  (binT .eql t9 (.int .i64 1) fun t18 =>
  condT t18
  (Fspec_l71Look.j4 t0 t7 t18 w3 R)
  (binT .eql t9 (.int .i64 2) fun t19 =>
  Fspec_l71Look.j4 t0 t7 t19 w3 R))
def Fspec_l71Look.H : Hints := {join := fun i => match i with | 10 => some [0, 5] | 17 => some [0, 5, 17] | 30 => some [0, 5, 23, 30] | _ => none}
theorem Fspec_l71Look.eq (t0 t1 : Value) : trF PR CX Fspec_l71Look.H Tryz.f291 [t0, t1] = Fspec_l71Look t0 t1 := by kernel_rfl
theorem Fspec_l71Look.cl {t0 t1 : Value} {w : World} {R : VW} (h : Fspec_l71Look t0 t1 w R) : clT PR 291 [t0, t1] w R := cl_of_tr (H := Fspec_l71Look.H) ctxOk Tryz.func291 rfl (by rw [Fspec_l71Look.eq]; exact h)
end Go.PT
