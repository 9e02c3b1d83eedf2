/- The reflected texts of functions of the program, and that a call keeps what its text says. -/
import Derived.Test.YtegddhbcglghdaaGreatCtx
set_option linter.unusedVariables false
set_option maxRecDepth 100000
namespace Go.PT
open Go.Proofs
/-! function 65: impl_HeapStep -/
def Fimpl_HeapStep (t0 t1 : Value) (w : World) (R : VW) : Prop :=
  boxT 42 t0 w fun t2 w1 =>
  boxT 57 t1 w1 fun t3 w2 =>
  allocT 57 #[(.slice none 0 0), (.int .i64 0), (.int .i64 0), (.slice none 0 0), (.int .i64 0)] w2 fun t4 w3 =>
  ldsT 1 t2 w3 fun t6 =>
  ldsT 5 t3 w3 fun t7 =>
  clT PR 79 [t6, t7, (.int .i64 1)] w3 fun t8 w4 =>
  extT t8 0 fun t9 =>
  extT t8 1 fun t10 =>
  stsT 5 t4 t9 w4 fun w5 =>
  ldsT 5 t4 w5 fun r6 =>
  R (.tuple #[r6, t10]) w5
def Fimpl_HeapStep.H : Hints := {}
theorem Fimpl_HeapStep.eq (t0 t1 : Value) : trF PR CX Fimpl_HeapStep.H Tryz.f65 [t0, t1] = Fimpl_HeapStep t0 t1 := by kernel_rfl
theorem Fimpl_HeapStep.cl {t0 t1 : Value} {w : World} {R : VW} (h : Fimpl_HeapStep t0 t1 w R) : clT PR 65 [t0, t1] w R := cl_of_tr (H := Fimpl_HeapStep.H) ctxOk Tryz.func65 rfl (by rw [Fimpl_HeapStep.eq]; exact h)

/-! function 75: impl_HeapNew -/
def Fimpl_HeapNew (t0 : Value) (w : World) (R : VW) : Prop :=
  boxT 42 t0 w fun t1 w1 =>
  allocT 57 #[(.slice none 0 0), (.int .i64 0), (.int .i64 0), (.slice none 0 0), (.int .i64 0)] w1 fun t2 w2 =>
  ldsT 1 t1 w2 fun t4 =>
  clT PR 135 [t4] w2 fun t5 w3 =>
  notT t5 fun t6 =>
  condT t6
  (bldT #[(.slice none 0 0), (.int .i64 0), (.int .i64 0), (.slice none 0 0), (.int .i64 0)] [] fun t7 =>
  stsT 5 t2 t7 w3 fun w4 =>
  ldsT 5 t2 w4 fun r5 =>
  R (.tuple #[r5, (.bool false)]) w4)
  (ldsT 1 t1 w3 fun t8 =>
  clT PR 157 [t8, (.int .i64 0), (.slice none 0 0), (.int .i64 (-1))] w3 fun t9 w6 =>
  bslT 89 1 6 #[(.int .i64 0), (.int .i64 0), (.slice none 0 0), (.slice none 0 0), (.int .i64 0), (.bool false)] [(0, 6, t9)] w6 fun t10 w7 =>
  bldT #[(.slice none 0 0), (.int .i64 0), (.int .i64 0), (.slice none 0 0), (.int .i64 0)] [(0, 1, t10), (2, 1, (.int .i64 1))] fun t11 =>
  stsT 5 t2 t11 w7 fun w8 =>
  ldsT 5 t2 w8 fun r9 =>
  R (.tuple #[r9, (.bool true)]) w8)
def Fimpl_HeapNew.H : Hints := {}
theorem Fimpl_HeapNew.eq (t0 : Value) : trF PR CX Fimpl_HeapNew.H Tryz.f75 [t0] = Fimpl_HeapNew t0 := by kernel_rfl
theorem Fimpl_HeapNew.cl {t0 : Value} {w : World} {R : VW} (h : Fimpl_HeapNew t0 w R) : clT PR 75 [t0] w R := cl_of_tr (H := Fimpl_HeapNew.H) ctxOk Tryz.func75 rfl (by rw [Fimpl_HeapNew.eq]; exact h)

/-! function 79: impl_HeapRun -/
def Fimpl_HeapRun.l1 (x2 x3 x6 x7 x8 x9 : Value) (w : World) (Kn Kb Kr : LW) : Prop := ∀ _ : Env,
  binT .lss x9 x2 fun t24 =>
  condT t24
  (fadT 4 x8 fun t26 =>
  ldT t26 w fun t27 =>
  binT .eql t27 (.int .i64 0) fun t28 =>
  condT t28
  (ldsT 1 x3 w fun t32 =>
  clT PR 164 [t32, (.iface 188 x8)] w fun t34 w13 =>
  fadT 4 x8 fun t35 =>
  stT t35 t34 w13 fun w14 =>
  binT .add x9 (.int .i64 1) fun t31 =>
  Kn [x2, x3, x6, x7, x8, t31] w14)
  (Kb [x2, x3, x6, x7, x8, x9] w))
  (Kb [x2, x3, x6, x7, x8, x9] w)
def Fimpl_HeapRun.k2 (x2 x3 x6 x7 x8 x9 : Value) (w : World) (R : VW) : Prop := ∀ _ : Env,
  ldsT 5 x8 w fun t36 =>
  stsT 5 x6 t36 w fun w15 =>
  ldsT 5 x6 w15 fun r16 =>
  R (.tuple #[r16, (.bool true)]) w15
def Fimpl_HeapRun.r3 (x2 x3 x6 x7 x8 x9 : Value) (w : World) (R : VW) : Prop := ∀ _ : Env,
  ldsT 5 x6 w fun r17 =>
  R (.tuple #[r17, x7]) w
def Fimpl_HeapRun (t0 t1 t2 : Value) (w : World) (R : VW) : Prop :=
  boxT 42 t0 w fun t3 w1 =>
  boxT 57 t1 w1 fun t4 w2 =>
  allocT 57 #[(.slice none 0 0), (.int .i64 0), (.int .i64 0), (.slice none 0 0), (.int .i64 0)] w2 fun t6 w3 =>
  ldsT 1 t3 w3 fun t10 =>
  ldsT 5 t4 w3 fun t11 =>
  clT PR 92 [t10, t11] w3 fun t12 w4 =>
  notT t12 fun t13 =>
  condT t13
  (bldT #[(.slice none 0 0), (.int .i64 0), (.int .i64 0), (.slice none 0 0), (.int .i64 0)] [] fun t19 =>
  stsT 5 t6 t19 w4 fun w5 =>
  ldsT 5 t6 w5 fun r6 =>
  R (.tuple #[r6, (.bool false)]) w5)
  (clT PR 147 [t2, (.int .i64 0), (.int .i64 400)] w4 fun t16 w7 =>
  notT t16 fun t17 =>
  condT t17
  (bldT #[(.slice none 0 0), (.int .i64 0), (.int .i64 0), (.slice none 0 0), (.int .i64 0)] [] fun t19 =>
  stsT 5 t6 t19 w7 fun w8 =>
  ldsT 5 t6 w8 fun r9 =>
  R (.tuple #[r9, (.bool false)]) w8)
  (ldsT 5 t4 w7 fun t20 =>
  clT PR 163 [t20] w7 fun t21 w10 =>
  allocT 57 #[(.slice none 0 0), (.int .i64 0), (.int .i64 0), (.slice none 0 0), (.int .i64 0)] w10 fun t8 w11 =>
  stsT 5 t8 t21 w11 fun w12 =>
  loopT (fun s w Kn Kb Kr => Fimpl_HeapRun.l1 (s.headD undef) (s.tail.headD undef) (s.tail.tail.headD undef) (s.tail.tail.tail.headD undef) (s.tail.tail.tail.tail.headD undef) (s.tail.tail.tail.tail.tail.headD undef) w Kn Kb Kr) [t2, t3, t6, (.bool false), t8, (.int .i64 0)] w12
  (fun s w => Fimpl_HeapRun.k2 (s.headD undef) (s.tail.headD undef) (s.tail.tail.headD undef) (s.tail.tail.tail.headD undef) (s.tail.tail.tail.tail.headD undef) (s.tail.tail.tail.tail.tail.headD undef) w R)
  (fun s w => Fimpl_HeapRun.r3 (s.headD undef) (s.tail.headD undef) (s.tail.tail.headD undef) (s.tail.tail.tail.headD undef) (s.tail.tail.tail.tail.headD undef) (s.tail.tail.tail.tail.tail.headD undef) w R)))
def Fimpl_HeapRun.H : Hints := {loop := fun i => match i with | 5 => some (0, [2, 3, 6, 7, 8, 9]) | _ => none}
theorem Fimpl_HeapRun.eq (t0 t1 t2 : Value) : trF PR CX Fimpl_HeapRun.H Tryz.f79 [t0, t1, t2] = Fimpl_HeapRun t0 t1 t2 := by kernel_rfl
theorem Fimpl_HeapRun.cl {t0 t1 t2 : Value} {w : World} {R : VW} (h : Fimpl_HeapRun t0 t1 t2 w R) : clT PR 79 [t0, t1, t2] w R := cl_of_tr (H := Fimpl_HeapRun.H) ctxOk Tryz.func79 rfl (by rw [Fimpl_HeapRun.eq]; exact h)

/-! function 124: slices_Clone_Val -/
def Fslices_Clone_Val (t0 : Value) (w : World) (R : VW) : Prop :=
  opT PR (do eqGuard .eql 35 (.tmp 3) (.const (.slice none 0 0)) t0 (.slice none 0 0); binOp .eql 35 t0 (.slice none 0 0)) w fun t4 w1 =>
  condT t4
  (R (.slice none 0 0) w1)
  (bslT 78 0 2 #[] [] w1 fun t5 w2 =>
  opT PR (Builtin.append_ #[35, 35] 35 #[t5, t0]) w2 fun t7 w3 =>
  R t7 w3)
def Fslices_Clone_Val.H : Hints := {}
theorem Fslices_Clone_Val.eq (t0 : Value) : trF PR CX Fslices_Clone_Val.H Tryz.f124 [t0] = Fslices_Clone_Val t0 := by kernel_rfl
theorem Fslices_Clone_Val.cl {t0 : Value} {w : World} {R : VW} (h : Fslices_Clone_Val t0 w R) : clT PR 124 [t0] w R := cl_of_tr (H := Fslices_Clone_Val.H) ctxOk Tryz.func124 rfl (by rw [Fslices_Clone_Val.eq]; exact h)

/-! function 125: impl_Call_copied -/
def Fimpl_Call_copied (t0 : Value) (w : World) (R : VW) : Prop :=
  boxT 89 t0 w fun t1 w1 =>
  allocT 89 #[(.int .i64 0), (.int .i64 0), (.slice none 0 0), (.slice none 0 0), (.int .i64 0), (.bool false)] w1 fun t2 w2 =>
  fadT 2 t1 fun t3 =>
  ldT t3 (w2.drew) fun t4 =>
  fadT 3 t1 fun t6 =>
  ldT t6 (w2.drew) fun t7 =>
  clT PR 124 [t4] (w2.drew) fun t5 w3 =>
  (ldT t6 w3 fun u => u = t7) ∧
  fadT 2 t1 fun t9 =>
  clT PR 124 [t7] w3 fun t8 w4 =>
  stT t9 t5 w4 fun w5 =>
  fadT 3 t1 fun t10 =>
  stT t10 t8 w5 fun w6 =>
  ldsT 6 t1 w6 fun t11 =>
  stsT 6 t2 t11 w6 fun w7 =>
  ldsT 6 t2 w7 fun r8 =>
  R r8 w7
def Fimpl_Call_copied.H : Hints := {draw := fun i => match i with | 1 => { T := [0, 1, 3, 0, 8, 31, 31, 127, 255, 511] } | _ => {}}
theorem Fimpl_Call_copied.eq (t0 : Value) : trF PR CX Fimpl_Call_copied.H Tryz.f125 [t0] = Fimpl_Call_copied t0 := by kernel_rfl
theorem Fimpl_Call_copied.cl {t0 : Value} {w : World} {R : VW} (h : Fimpl_Call_copied t0 w R) : clT PR 125 [t0] w R := cl_of_tr (H := Fimpl_Call_copied.H) ctxOk Tryz.func125 rfl (by rw [Fimpl_Call_copied.eq]; exact h)

/-! function 157: impl_newCall -/
def Fimpl_newCall (t0 t1 t2 t3 : Value) (w : World) (R : VW) : Prop :=
  boxT 42 t0 w fun t4 w1 =>
  allocT 89 #[(.int .i64 0), (.int .i64 0), (.slice none 0 0), (.slice none 0 0), (.int .i64 0), (.bool false)] w1 fun t8 w2 =>
  fadT 0 t4 fun t11 =>
  ldT t11 w2 fun t12 =>
  ixaT 3 t12 t1 fun t14 =>
  fadT 1 t14 fun t15 =>
  ldT t15 w2 fun t16 =>
  opT PR (Instr.makeSlice 35 t16 t16) w2 fun t17 w3 =>
  bldT #[(.int .i64 0), (.int .i64 0), (.slice none 0 0), (.slice none 0 0), (.int .i64 0), (.bool false)] [(0, 1, t1), (2, 1, t17), (4, 1, t3)] fun t19 =>
  allocT 89 #[(.int .i64 0), (.int .i64 0), (.slice none 0 0), (.slice none 0 0), (.int .i64 0), (.bool false)] w3 fun t9 w4 =>
  stsT 6 t9 t19 w4 fun w5 =>
  fadT 2 t9 fun t20 =>
  ldT t20 w5 fun t21 =>
  opT PR (Builtin.copy_ #[35, 35] 3 #[t21, t2]) w5 fun t23 w6 =>
  ldsT 6 t9 w6 fun t24 =>
  stsT 6 t8 t24 w6 fun w7 =>
  ldsT 6 t8 w7 fun r8 =>
  R r8 w7
def Fimpl_newCall.H : Hints := {}
theorem Fimpl_newCall.eq (t0 t1 t2 t3 : Value) : trF PR CX Fimpl_newCall.H Tryz.f157 [t0, t1, t2, t3] = Fimpl_newCall t0 t1 t2 t3 := by kernel_rfl
theorem Fimpl_newCall.cl {t0 t1 t2 t3 : Value} {w : World} {R : VW} (h : Fimpl_newCall t0 t1 t2 t3 w R) : clT PR 157 [t0, t1, t2, t3] w R := cl_of_tr (H := Fimpl_newCall.H) ctxOk Tryz.func157 rfl (by rw [Fimpl_newCall.eq]; exact h)

/-! function 163: impl_Heap_copied -/
def Fimpl_Heap_copied.l1 (x1 x2 x3 x7 x8 x9 : Value) (w : World) (Kn Kb Kr : LW) : Prop := ∀ _ : Env,
  binT .lss x9 x8 fun t10 =>
  condT t10
  (ixaT 6 x7 x9 fun t11 =>
  ldsT 6 t11 w fun t12 =>
  allocT 89 #[(.int .i64 0), (.int .i64 0), (.slice none 0 0), (.slice none 0 0), (.int .i64 0), (.bool false)] w fun t5 w3 =>
  stsT 6 t5 t12 w3 fun w4 =>
  ldsT 6 t5 w4 fun t14 =>
  clT PR 125 [t14] w4 fun t15 w5 =>
  bslT 89 1 6 #[(.int .i64 0), (.int .i64 0), (.slice none 0 0), (.slice none 0 0), (.int .i64 0), (.bool false)] [(0, 6, t15)] w5 fun t16 w6 =>
  opT PR (Builtin.append_ #[55, 55] 55 #[x3, t16]) w6 fun t17 w7 =>
  binT .add x9 (.int .i64 1) fun t18 =>
  Kn [x1, x2, t17, x7, x8, t18] w7)
  (Kb [x1, x2, x3, x7, x8, x9] w)
def Fimpl_Heap_copied.k2 (x1 x2 x3 x7 x8 x9 : Value) (w : World) (R : VW) : Prop := ∀ _ : Env,
  fadT 3 x1 fun t20 =>
  ldT t20 w fun t21 =>
  clT PR 124 [t21] w fun t22 w8 =>
  fadT 0 x1 fun t23 =>
  stT t23 x3 w8 fun w9 =>
  fadT 3 x1 fun t24 =>
  stT t24 t22 w9 fun w10 =>
  ldsT 5 x1 w10 fun t25 =>
  stsT 5 x2 t25 w10 fun w11 =>
  ldsT 5 x2 w11 fun r12 =>
  R r12 w11
def Fimpl_Heap_copied.r3 (x1 x2 x3 x7 x8 x9 : Value) (w : World) (R : VW) : Prop := ∀ _ : Env,
  ldsT 5 x2 w fun r13 =>
  R r13 w
def Fimpl_Heap_copied (t0 : Value) (w : World) (R : VW) : Prop :=
  boxT 57 t0 w fun t1 w1 =>
  allocT 57 #[(.slice none 0 0), (.int .i64 0), (.int .i64 0), (.slice none 0 0), (.int .i64 0)] w1 fun t2 w2 =>
  fadT 0 t1 fun t6 =>
  ldT t6 w2 fun t7 =>
  lenT t7 fun t8 =>
  loopT (fun s w Kn Kb Kr => Fimpl_Heap_copied.l1 (s.headD undef) (s.tail.headD undef) (s.tail.tail.headD undef) (s.tail.tail.tail.headD undef) (s.tail.tail.tail.tail.headD undef) (s.tail.tail.tail.tail.tail.headD undef) w Kn Kb Kr) [t1, t2, (.slice none 0 0), t7, t8, (.int .i64 0)] w2
  (fun s w => Fimpl_Heap_copied.k2 (s.headD undef) (s.tail.headD undef) (s.tail.tail.headD undef) (s.tail.tail.tail.headD undef) (s.tail.tail.tail.tail.headD undef) (s.tail.tail.tail.tail.tail.headD undef) w R)
  (fun s w => Fimpl_Heap_copied.r3 (s.headD undef) (s.tail.headD undef) (s.tail.tail.headD undef) (s.tail.tail.tail.headD undef) (s.tail.tail.tail.tail.headD undef) (s.tail.tail.tail.tail.tail.headD undef) w R)
def Fimpl_Heap_copied.H : Hints := {loop := fun i => match i with | 3 => some (0, [1, 2, 3, 7, 8, 9]) | _ => none}
theorem Fimpl_Heap_copied.eq (t0 : Value) : trF PR CX Fimpl_Heap_copied.H Tryz.f163 [t0] = Fimpl_Heap_copied t0 := by kernel_rfl
theorem Fimpl_Heap_copied.cl {t0 : Value} {w : World} {R : VW} (h : Fimpl_Heap_copied t0 w R) : clT PR 163 [t0] w R := cl_of_tr (H := Fimpl_Heap_copied.H) ctxOk Tryz.func163 rfl (by rw [Fimpl_Heap_copied.eq]; exact h)

/-! function 164: impl_stepOf -/
def Fimpl_stepOf.j2 (x1 x9 x11 x209 : Value) (w : World) (R : VW) : Prop := ∀ _ : Env,
  R (.int .i64 0) w
def Fimpl_stepOf.j1 (x1 x9 x11 x209 : Value) (w : World) (R : VW) : Prop := ∀ _ : Env,
  condT x209
  (ldsT 2 x9 w fun t215 =>
  clT PR 227 [x1, t215, x11] w fun t217 w46 =>
  Fimpl_stepOf.j2 x1 x9 x11 x209 w46 R)
  (Fimpl_stepOf.j2 x1 x9 x11 x209 w R)
def Fimpl_stepOf.j3 (x1 x9 x11 x209 : Value) (w : World) (R : VW) : Prop := ∀ _ : Env,
  Fimpl_stepOf.j1 x1 x9 x11 x209 w R
def Fimpl_stepOf.j4 (x1 x9 x11 x209 : Value) (w : World) (R : VW) : Prop := ∀ _ : Env,
  Fimpl_stepOf.j3 x1 x9 x11 x209 w R
def Fimpl_stepOf (t0 t1 : Value) (w : World) (R : VW) : Prop :=
  boxT 42 t0 w fun t2 w1 =>
  ivT PR t1 "loop.example/gemel/impl.running" [] w1 fun t19 w2 =>
  extT t19 0 fun t20 =>
  extT t19 1 fun t21 =>
  extT t19 2 fun t22 =>
  extT t19 3 fun t23 =>
  ldsT 1 t2 (w2.drew) fun t25 =>
  nilT PR t21 fun t28 =>
  ldT t28 (w2.drew) fun t29 =>
  arT [(76, #[(.int .i64 0), (.int .i64 0)])] (w2.drew) [none] fun w3 s4 =>
  clT PR 221 [t25, t20, t29] w3 fun t30 w5 =>
  extT t30 0 fun t31 =>
  extT t30 1 fun t32 =>
  arT [(76, #[(.int .i64 0), (.int .i64 0)])] w5 s4 fun w6 s7 =>
  ndT s7 0 fun b8 =>
  stsT 2 (.pointer (some ⟨b8, 0, none⟩)) t31 w6 fun w9 =>
  arT [(76, #[(.int .i64 0), (.int .i64 0)])] w9 s7 fun w10 s11 =>
  ndT s11 0 fun b12 =>
  arT [(76, #[(.int .i64 0), (.int .i64 0)])] w10 s11 fun w13 s14 =>
  ndT s14 0 fun b15 =>
  notT t32 fun t34 =>
  condT t34
  (R (.int .i64 2) w13)
  (ldsT 1 t2 w13 fun t36 =>
  ldsT 2 (.pointer (some ⟨b15, 0, none⟩)) w13 fun t37 =>
  clT PR 222 [t36, t37, t23] w13 fun t39 w16 =>
  extT t39 0 fun t40 =>
  extT t39 1 fun t41 =>
  notT t41 fun t43 =>
  condT t43
  (R (.int .i64 2) w16)
  (nilT PR t21 fun t45 =>
  ldT t45 w16 fun t46 =>
  binT .add t46 (.int .i64 1) fun t47 =>
  nilT PR t21 fun t48 =>
  stT t48 t47 w16 fun w17 =>
  fadT 0 (.pointer (some ⟨b15, 0, none⟩)) fun t49 =>
  ldT t49 w17 fun t50 =>
  binT .eql t50 (.int .i64 1) fun t52 =>
  condT t52
  (fadT 1 (.pointer (some ⟨b15, 0, none⟩)) fun t54 =>
  ldT t54 w17 fun t55 =>
  clT PR 224 [t55] w17 fun t56 w18 =>
  clT PR 223 [t1, t56] w18 fun t57 w19 =>
  R (.int .i64 0) w19)
  (binT .eql t50 (.int .i64 2) fun t59 =>
  condT t59
  (fadT 1 (.pointer (some ⟨b15, 0, none⟩)) fun t62 =>
  ldT t62 w17 fun t63 =>
  ixaT 2 t22 t63 fun t64 =>
  ldsT 2 t64 w17 fun t65 =>
  clT PR 223 [t1, t65] w17 fun t66 w20 =>
  R (.int .i64 0) w20)
  (binT .eql t50 (.int .i64 3) fun t68 =>
  condT t68
  (fadT 1 (.pointer (some ⟨b15, 0, none⟩)) fun t70 =>
  ldT t70 (w17.drew) fun t71 =>
  ixaT 2 t40 (.int .i64 0) fun t73 =>
  ldsT 2 t73 (w17.drew) fun t74 =>
  ixaT 2 t22 t71 fun t75 =>
  stsT 2 t75 t74 (w17.drew) fun w21 =>
  R (.int .i64 0) w21)
  (binT .eql t50 (.int .i64 5) fun t77 =>
  condT t77
  (ixaT 2 t40 (.int .i64 0) fun t80 =>
  fadT 1 t80 fun t81 =>
  ldT t81 (w17.drew) fun t82 =>
  ixaT 2 t40 (.int .i64 1) fun t84 =>
  fadT 1 t84 fun t85 =>
  ldT t85 (w17.drew) fun t86 =>
  binT .add t82 t86 fun t87 =>
  binT .rem t87 (.int .i64 1000) fun t88 =>
  clT PR 224 [t88] (w17.drew) fun t89 w22 =>
  clT PR 223 [t1, t89] w22 fun t90 w23 =>
  R (.int .i64 0) w23)
  (binT .eql t50 (.int .i64 6) fun t92 =>
  condT t92
  (ixaT 2 t40 (.int .i64 0) fun t95 =>
  ldsT 2 t95 (w17.drew) fun t96 =>
  ixaT 2 t40 (.int .i64 1) fun t98 =>
  ldsT 2 t98 (w17.drew) fun t99 =>
  opT PR (do eqGuard .eql 78 (.tmp 96) (.tmp 99) t96 t99; binOp .eql 78 t96 t99) (w17.drew) fun t100 w24 =>
  clT PR 225 [t100] w24 fun t101 w25 =>
  clT PR 223 [t1, t101] w25 fun t102 w26 =>
  R (.int .i64 0) w26)
  (binT .eql t50 (.int .i64 7) fun t104 =>
  condT t104
  (fadT 1 (.pointer (some ⟨b15, 0, none⟩)) fun t106 =>
  ldT t106 w17 fun t107 =>
  nilT PR t21 fun t108 =>
  stT t108 t107 w17 fun w27 =>
  R (.int .i64 0) w27)
  (binT .eql t50 (.int .i64 8) fun t110 =>
  condT t110
  (ixaT 2 t40 (.int .i64 0) fun t112 =>
  ldsT 2 t112 (w17.drew) fun t113 =>
  bldT #[(.int .i64 0), (.int .i64 0)] [] fun t114 =>
  opT PR (do eqGuard .eql 78 (.tmp 113) (.tmp 114) t113 t114; binOp .eql 78 t113 t114) (w17.drew) fun t115 w28 =>
  condT t115
  (fadT 1 (.pointer (some ⟨b15, 0, none⟩)) fun t124 =>
  ldT t124 w28 fun t125 =>
  nilT PR t21 fun t126 =>
  stT t126 t125 w28 fun w29 =>
  R (.int .i64 0) w29)
  (ixaT 2 t40 (.int .i64 0) fun t118 =>
  ldsT 2 t118 w28 fun t119 =>
  clT PR 224 [(.int .i64 0)] w28 fun t120 w30 =>
  (ldsT 2 t118 w30 fun u => u = t119) ∧
  opT PR (do eqGuard .eql 78 (.tmp 119) (.tmp 120) t119 t120; binOp .eql 78 t119 t120) w30 fun t121 w31 =>
  condT t121
  (fadT 1 (.pointer (some ⟨b15, 0, none⟩)) fun t124 =>
  ldT t124 w31 fun t125 =>
  nilT PR t21 fun t126 =>
  stT t126 t125 w31 fun w32 =>
  R (.int .i64 0) w32)
  (R (.int .i64 0) w31)))
  (binT .eql t50 (.int .i64 9) fun t128 =>
  condT t128
  (ivT PR t1 "loop.example/gemel/impl.full" [] w17 fun t130 w33 =>
  condT t130
  (R (.int .i64 3) w33)
  (ldsT 1 t2 w33 fun t132 =>
  fadT 1 (.pointer (some ⟨b15, 0, none⟩)) fun t133 =>
  ldT t133 w33 fun t134 =>
  ivT PR t1 "loop.example/gemel/impl.enter" [t132, t134, t40] w33 fun t136 w34 =>
  R (.int .i64 0) w34))
  (binT .eql t50 (.int .i64 10) fun t138 =>
  condT t138
  (ivT PR t1 "loop.example/gemel/impl.leave" [] w17 fun t140 w35 =>
  notT t140 fun t141 =>
  condT t141
  (ixaT 2 t40 (.int .i64 0) fun t144 =>
  ldsT 2 t144 w35 fun t145 =>
  clT PR 226 [t1, t145] w35 fun t146 w36 =>
  R (.int .i64 1) w36)
  (ixaT 2 t40 (.int .i64 0) fun t149 =>
  ldsT 2 t149 w35 fun t150 =>
  clT PR 223 [t1, t150] w35 fun t151 w37 =>
  R (.int .i64 0) w37))
  (binT .eql t50 (.int .i64 11) fun t153 =>
  condT t153
  (ivT PR t1 "loop.example/gemel/impl.here" [] w17 fun t156 w38 =>
  clT PR 223 [t1, t156] w38 fun t157 w39 =>
  R (.int .i64 0) w39)
  (binT .eql t50 (.int .i64 12) fun t159 =>
  condT t159
  (ixaT 2 t40 (.int .i64 0) fun t163 =>
  fadT 1 t163 fun t164 =>
  ldT t164 (w17.drew) fun t165 =>
  nilT PR (.func (.method "loop.example/gemel/impl.sender") #[t1] #[]) fun t167 =>
  ivT PR t1 "loop.example/gemel/impl.sender" [t165] (w17.drew) fun t169 w40 =>
  clT PR 223 [t1, t169] w40 fun t170 w41 =>
  R (.int .i64 0) w41)
  (binT .eql t50 (.int .i64 15) fun t172 =>
  condT t172
  (ixaT 2 t40 (.int .i64 0) fun t176 =>
  fadT 1 t176 fun t177 =>
  ldT t177 (w17.drew) fun t178 =>
  nilT PR (.func (.method "loop.example/gemel/impl.looked") #[t1] #[]) fun t180 =>
  ivT PR t1 "loop.example/gemel/impl.looked" [t178] (w17.drew) fun t182 w42 =>
  extT t182 0 fun t183 =>
  extT t182 1 fun t184 =>
  extT t182 2 fun t185 =>
  extT t182 3 fun t186 =>
  condT t186
  (R (.int .i64 2) w42)
  (ixaT 2 t40 (.int .i64 0) fun t190 =>
  fadT 1 t190 fun t191 =>
  ldT t191 (w42.drew) fun t192 =>
  nilT PR (.func (.method "loop.example/gemel/impl.upTo") #[t1] #[]) fun t194 =>
  ivT PR t1 "loop.example/gemel/impl.upTo" [t192] (w42.drew) fun t196 w43 =>
  ixaT 2 t40 (.int .i64 1) fun t199 =>
  ldsT 2 t199 w43 fun t200 =>
  clT PR 223 [t1, t200] w43 fun t201 w44 =>
  R (.int .i64 0) w44))
  (binT .eql t50 (.int .i64 16) fun t203 =>
  condT t203
  (ixaT 2 t40 (.int .i64 0) fun t206 =>
  ldsT 2 t206 w17 fun t207 =>
  clT PR 226 [t1, t207] w17 fun t208 w45 =>
  R (.int .i64 0) w45)
  (binT .eql t50 (.int .i64 13) fun t210 =>
  condT t210
  (Fimpl_stepOf.j1 t1 (.pointer (some ⟨b15, 0, none⟩)) t40 t210 w17 R)
  (binT .eql t50 (.int .i64 14) fun t211 =>
  condT t211
  (Fimpl_stepOf.j3 t1 (.pointer (some ⟨b15, 0, none⟩)) t40 t211 w17 R)
  (binT .eql t50 (.int .i64 17) fun t212 =>
  condT t212
  (Fimpl_stepOf.j4 t1 (.pointer (some ⟨b15, 0, none⟩)) t40 t212 w17 R)
  (binT .eql t50 (.int .i64 18) fun t213 =>
  Fimpl_stepOf.j4 t1 (.pointer (some ⟨b15, 0, none⟩)) t40 t213 w17 R))))))))))))))))))
def Fimpl_stepOf.H : Hints := {draw := fun i => match i with | 2 => { T := [0, 0, 0, 4, 12, 31, 63, 127, 127, 0, 767, 2047], F := [9] } | 15 => { T := [0, 0, 2, 0, 8, 24, 63, 127] } | 17 => { T := [0, 0, 2, 6, 14, 0, 32, 96, 224, 510, 1022, 2046, 4095] } | 19 => { T := [0, 0, 2, 6, 0, 16, 48, 126, 254, 511] } | 23 => { T := [0, 1, 3, 0, 15, 31, 63, 127, 255, 63, 1023, 2047] } | 37 => { T := [0, 0, 0, 4, 12, 28, 2, 66, 194, 510, 1023] } | 39 => { T := [0, 0, 2, 6, 14, 1, 33, 97, 255, 511, 1023, 1023, 1023, 1023, 2047, 20479, 57343, 131071] } | 42 => { T := [0, 0, 2, 6, 14, 1, 33, 97, 255] } | _ => {}, join := fun i => match i with | 209 => some [1, 9, 11, 209] | _ => none}
theorem Fimpl_stepOf.eq (t0 t1 : Value) : trF PR CX Fimpl_stepOf.H Tryz.f164 [t0, t1] = Fimpl_stepOf t0 t1 := by kernel_rfl
theorem Fimpl_stepOf.cl {t0 t1 : Value} {w : World} {R : VW} (h : Fimpl_stepOf t0 t1 w R) : clT PR 164 [t0, t1] w R := cl_of_tr (H := Fimpl_stepOf.H) ctxOk Tryz.func164 rfl (by rw [Fimpl_stepOf.eq]; exact h)

/-! function 221: impl_opAt -/
def Fimpl_opAt (t0 t1 t2 : Value) (w : World) (R : VW) : Prop :=
  boxT 42 t0 w fun t3 w1 =>
  allocT 76 #[(.int .i64 0), (.int .i64 0)] w1 fun t6 w2 =>
  fadT 0 t3 fun t9 =>
  ldT t9 w2 fun t10 =>
  ixaT 3 t10 t1 fun t12 =>
  fadT 2 t12 fun t13 =>
  ldT t13 w2 fun t14 =>
  lenT t14 fun t17 =>
  binT .sub t17 (.int .i64 1) fun t18 =>
  clT PR 147 [t2, (.int .i64 0), t18] w2 fun t19 w3 =>
  notT t19 fun t20 =>
  condT t20
  (bldT #[(.int .i64 0), (.int .i64 0)] [] fun t21 =>
  stsT 2 t6 t21 w3 fun w4 =>
  ldsT 2 t6 w4 fun r5 =>
  R (.tuple #[r5, (.bool false)]) w4)
  (ixaT 2 t14 t2 fun t24 =>
  ldsT 2 t24 w3 fun t25 =>
  stsT 2 t6 t25 w3 fun w6 =>
  ldsT 2 t6 w6 fun r7 =>
  R (.tuple #[r7, (.bool true)]) w6)
def Fimpl_opAt.H : Hints := {}
theorem Fimpl_opAt.eq (t0 t1 t2 : Value) : trF PR CX Fimpl_opAt.H Tryz.f221 [t0, t1, t2] = Fimpl_opAt t0 t1 t2 := by kernel_rfl
theorem Fimpl_opAt.cl {t0 t1 t2 : Value} {w : World} {R : VW} (h : Fimpl_opAt t0 t1 t2 w R) : clT PR 221 [t0, t1, t2] w R := cl_of_tr (H := Fimpl_opAt.H) ctxOk Tryz.func221 rfl (by rw [Fimpl_opAt.eq]; exact h)

/-! function 222: impl_taken -/
def Fimpl_taken.l1 (x2 x6 x7 x10 x11 x45 x46 x47 : Value) (w : World) (Kn Kb Kr : LW) : Prop := ∀ _ : Env,
  binT .lss x47 x46 fun t48 =>
  condT t48
  (ixaT 1 x45 x47 fun t50 =>
  ldT t50 w fun t51 =>
  binT .neq t51 (.int .i64 (-1)) fun t53 =>
  condT t53
  (ixaT 2 x11 x47 fun t57 =>
  fadT 0 t57 fun t58 =>
  ldT t58 w fun t59 =>
  binT .neq t59 t51 fun t61 =>
  condT t61
  (Kr [x2, (.slice none 0 0), (.bool false), x10, x11, x45, x46, x47] w)
  (binT .add x47 (.int .i64 1) fun t63 =>
  Kn [x2, x6, x7, x10, x11, x45, x46, t63] w))
  (binT .add x47 (.int .i64 1) fun t63 =>
  Kn [x2, x6, x7, x10, x11, x45, x46, t63] w))
  (Kb [x2, x6, x7, x10, x11, x45, x46, x47] w)
def Fimpl_taken.k2 (x2 x6 x7 x10 x11 x45 x46 x47 : Value) (w : World) (R : VW) : Prop := ∀ _ : Env,
  nilT PR x2 fun t66 =>
  ldT t66 w fun t67 =>
  opT PR (Instr.sliceAt 35 t67 none (some x10) none) w fun t69 w7 =>
  clT PR 124 [t69] w7 fun t70 w8 =>
  nilT PR x2 fun t71 =>
  stT t71 t70 w8 fun w9 =>
  R (.tuple #[x11, (.bool true)]) w9
def Fimpl_taken.r3 (x2 x6 x7 x10 x11 x45 x46 x47 : Value) (w : World) (R : VW) : Prop := ∀ _ : Env,
  R (.tuple #[x6, x7]) w
def Fimpl_taken (t0 t1 t2 : Value) (w : World) (R : VW) : Prop :=
  boxT 42 t0 w fun t3 w1 =>
  boxT 76 t1 w1 fun t4 w2 =>
  ldsT 1 t3 w2 fun t15 =>
  ldsT 2 t4 w2 fun t16 =>
  clT PR 264 [t15, t16] w2 fun t17 w3 =>
  extT t17 0 fun t18 =>
  extT t17 1 fun t19 =>
  nilT PR t2 fun t21 =>
  ldT t21 w3 fun t22 =>
  lenT t22 fun t23 =>
  binT .sub t23 t18 fun t25 =>
  binT .lss t25 (.int .i64 0) fun t27 =>
  condT t27
  (R (.tuple #[(.slice none 0 0), (.bool false)]) w3)
  (binT .add t25 t19 fun t31 =>
  binT .gtr t31 (.int .i64 6) fun t32 =>
  condT t32
  (R (.tuple #[(.slice none 0 0), (.bool false)]) w3)
  (nilT PR t2 fun t35 =>
  ldT t35 w3 fun t36 =>
  opT PR (Instr.sliceAt 35 t36 (some t25) none none) w3 fun t38 w4 =>
  clT PR 124 [t38] w4 fun t39 w5 =>
  fadT 0 t4 fun t41 =>
  ldT t41 (w5.drew) fun t42 =>
  clT PR 265 [] (w5.drew) fun t40 w6 =>
  (ldT t41 w6 fun u => u = t42) ∧
  ixaT 5 t40 t42 fun t43 =>
  fadT 3 t43 fun t44 =>
  ldT t44 w6 fun t45 =>
  lenT t45 fun t46 =>
  loopT (fun s w Kn Kb Kr => Fimpl_taken.l1 (s.headD undef) (s.tail.headD undef) (s.tail.tail.headD undef) (s.tail.tail.tail.headD undef) (s.tail.tail.tail.tail.headD undef) (s.tail.tail.tail.tail.tail.headD undef) (s.tail.tail.tail.tail.tail.tail.headD undef) (s.tail.tail.tail.tail.tail.tail.tail.headD undef) w Kn Kb Kr) [t2, (.slice none 0 0), (.bool false), t25, t39, t45, t46, (.int .i64 0)] w6
  (fun s w => Fimpl_taken.k2 (s.headD undef) (s.tail.headD undef) (s.tail.tail.headD undef) (s.tail.tail.tail.headD undef) (s.tail.tail.tail.tail.headD undef) (s.tail.tail.tail.tail.tail.headD undef) (s.tail.tail.tail.tail.tail.tail.headD undef) (s.tail.tail.tail.tail.tail.tail.tail.headD undef) w R)
  (fun s w => Fimpl_taken.r3 (s.headD undef) (s.tail.headD undef) (s.tail.tail.headD undef) (s.tail.tail.tail.headD undef) (s.tail.tail.tail.tail.headD undef) (s.tail.tail.tail.tail.tail.headD undef) (s.tail.tail.tail.tail.tail.tail.headD undef) (s.tail.tail.tail.tail.tail.tail.tail.headD undef) w R)))
def Fimpl_taken.H : Hints := {draw := fun i => match i with | 6 => { T := [0, 0, 2, 7, 15, 31, 63, 0] } | _ => {}, loop := fun i => match i with | 7 => some (0, [2, 6, 7, 10, 11, 45, 46, 47]) | _ => none}
theorem Fimpl_taken.eq (t0 t1 t2 : Value) : trF PR CX Fimpl_taken.H Tryz.f222 [t0, t1, t2] = Fimpl_taken t0 t1 t2 := by kernel_rfl
theorem Fimpl_taken.cl {t0 t1 t2 : Value} {w : World} {R : VW} (h : Fimpl_taken t0 t1 t2 w R) : clT PR 222 [t0, t1, t2] w R := cl_of_tr (H := Fimpl_taken.H) ctxOk Tryz.func222 rfl (by rw [Fimpl_taken.eq]; exact h)

/-! function 223: impl_push -/
def Fimpl_push (t0 t1 : Value) (w : World) (R : VW) : Prop :=
  boxT 78 t1 w fun t3 w1 =>
  ivT PR t0 "loop.example/gemel/impl.running" [] w1 fun t10 w2 =>
  extT t10 0 fun t11 =>
  extT t10 1 fun t12 =>
  extT t10 2 fun t13 =>
  extT t10 3 fun t14 =>
  nilT PR t14 fun t17 =>
  ldT t17 (w2.drew) fun t18 =>
  ldsT 2 t3 (w2.drew) fun t19 =>
  bslT 78 1 2 #[(.int .i64 0), (.int .i64 0)] [(0, 2, t19)] (w2.drew) fun t20 w3 =>
  (ldT t17 w3 fun u => u = t18) ∧
  opT PR (Builtin.append_ #[35, 35] 35 #[t18, t20]) w3 fun t21 w4 =>
  nilT PR t14 fun t22 =>
  stT t22 t21 w4 fun w5 =>
  R (.tuple #[]) w5
def Fimpl_push.H : Hints := {draw := fun i => match i with | 2 => { T := [0, 0, 2, 6, 0, 16, 62, 127, 255] } | _ => {}}
theorem Fimpl_push.eq (t0 t1 : Value) : trF PR CX Fimpl_push.H Tryz.f223 [t0, t1] = Fimpl_push t0 t1 := by kernel_rfl
theorem Fimpl_push.cl {t0 t1 : Value} {w : World} {R : VW} (h : Fimpl_push t0 t1 w R) : clT PR 223 [t0, t1] w R := cl_of_tr (H := Fimpl_push.H) ctxOk Tryz.func223 rfl (by rw [Fimpl_push.eq]; exact h)

/-! function 224: impl_number -/
def Fimpl_number (t0 : Value) (w : World) (R : VW) : Prop :=
  allocT 78 #[(.int .i64 0), (.int .i64 0)] w fun t2 w1 =>
  bldT #[(.int .i64 0), (.int .i64 0)] [(0, 1, (.int .i64 1)), (1, 1, t0)] fun t4 =>
  stsT 2 t2 t4 w1 fun w2 =>
  ldsT 2 t2 w2 fun r3 =>
  R r3 w2
def Fimpl_number.H : Hints := {}
theorem Fimpl_number.eq (t0 : Value) : trF PR CX Fimpl_number.H Tryz.f224 [t0] = Fimpl_number t0 := by kernel_rfl
theorem Fimpl_number.cl {t0 : Value} {w : World} {R : VW} (h : Fimpl_number t0 w R) : clT PR 224 [t0] w R := cl_of_tr (H := Fimpl_number.H) ctxOk Tryz.func224 rfl (by rw [Fimpl_number.eq]; exact h)

/-! function 225: impl_truth -/
def Fimpl_truth (t0 : Value) (w : World) (R : VW) : Prop :=
  allocT 78 #[(.int .i64 0), (.int .i64 0)] w fun t2 w1 =>
  condT t0
  (clT PR 224 [(.int .i64 1)] w1 fun t4 w2 =>
  stsT 2 t2 t4 w2 fun w3 =>
  ldsT 2 t2 w3 fun r4 =>
  R r4 w3)
  (clT PR 224 [(.int .i64 0)] w1 fun t5 w5 =>
  stsT 2 t2 t5 w5 fun w6 =>
  ldsT 2 t2 w6 fun r7 =>
  R r7 w6)
def Fimpl_truth.H : Hints := {}
theorem Fimpl_truth.eq (t0 : Value) : trF PR CX Fimpl_truth.H Tryz.f225 [t0] = Fimpl_truth t0 := by kernel_rfl
theorem Fimpl_truth.cl {t0 : Value} {w : World} {R : VW} (h : Fimpl_truth t0 w R) : clT PR 225 [t0] w R := cl_of_tr (H := Fimpl_truth.H) ctxOk Tryz.func225 rfl (by rw [Fimpl_truth.eq]; exact h)

/-! function 226: impl_sayIt -/
def Fimpl_sayIt (t0 t1 : Value) (w : World) (R : VW) : Prop :=
  boxT 78 t1 w fun t3 w1 =>
  fadT 0 t3 fun t4 =>
  ldT t4 w1 fun t5 =>
  binT .eql t5 (.int .i64 2) fun t6 =>
  condT t6
  (fadT 1 t3 fun t9 =>
  ldT t9 w1 fun t10 =>
  ivT PR t0 "loop.example/gemel/impl.looked" [t10] w1 fun t11 w2 =>
  extT t11 0 fun t12 =>
  extT t11 1 fun t13 =>
  extT t11 2 fun t14 =>
  extT t11 3 fun t15 =>
  fadT 1 t3 fun t16 =>
  stT t16 t12 w2 fun w3 =>
  ldsT 2 t3 w3 fun t18 =>
  ivT PR t0 "loop.example/gemel/impl.say" [t18] w3 fun t19 w4 =>
  R (.tuple #[]) w4)
  (ldsT 2 t3 w1 fun t18 =>
  ivT PR t0 "loop.example/gemel/impl.say" [t18] w1 fun t19 w5 =>
  R (.tuple #[]) w5)
def Fimpl_sayIt.H : Hints := {}
theorem Fimpl_sayIt.eq (t0 t1 : Value) : trF PR CX Fimpl_sayIt.H Tryz.f226 [t0, t1] = Fimpl_sayIt t0 t1 := by kernel_rfl
theorem Fimpl_sayIt.cl {t0 t1 : Value} {w : World} {R : VW} (h : Fimpl_sayIt t0 t1 w R) : clT PR 226 [t0, t1] w R := cl_of_tr (H := Fimpl_sayIt.H) ctxOk Tryz.func226 rfl (by rw [Fimpl_sayIt.eq]; exact h)

/-! function 227: impl_look -/
def Fimpl_look (t0 t1 t2 : Value) (w : World) (R : VW) : Prop :=
  boxT 76 t1 w fun t4 w1 =>
  ixaT 2 t2 (.int .i64 0) fun t14 =>
  fadT 1 t14 fun t15 =>
  ldT t15 (w1.drew) fun t16 =>
  nilT PR (.func (.method "loop.example/gemel/impl.looked") #[t0] #[]) fun t18 =>
  ivT PR t0 "loop.example/gemel/impl.looked" [t16] (w1.drew) fun t20 w2 =>
  extT t20 0 fun t21 =>
  extT t20 1 fun t22 =>
  extT t20 2 fun t23 =>
  extT t20 3 fun t24 =>
  fadT 0 t4 fun t25 =>
  ldT t25 w2 fun t26 =>
  binT .eql t26 (.int .i64 13) fun t28 =>
  condT t28
  (bldT #[(.int .i64 0), (.int .i64 0)] [] fun t29 =>
  allocT 78 #[(.int .i64 0), (.int .i64 0)] w2 fun t10 w3 =>
  stsT 2 t10 t29 w3 fun w4 =>
  fadT 1 t4 fun t30 =>
  ldT t30 w4 fun t31 =>
  lenT t23 fun t33 =>
  binT .lss t31 t33 fun t34 =>
  condT t34
  (fadT 1 t4 fun t36 =>
  ldT t36 w4 fun t37 =>
  ixaT 2 t23 t37 fun t38 =>
  ldsT 2 t38 w4 fun t39 =>
  stsT 2 t10 t39 w4 fun w5 =>
  ldsT 2 t10 w5 fun t41 =>
  clT PR 223 [t0, t41] w5 fun t42 w6 =>
  R (.tuple #[]) w6)
  (ldsT 2 t10 w4 fun t41 =>
  clT PR 223 [t0, t41] w4 fun t42 w7 =>
  R (.tuple #[]) w7))
  (binT .eql t26 (.int .i64 14) fun t44 =>
  condT t44
  (fadT 1 t4 fun t45 =>
  ldT t45 w2 fun t46 =>
  lenT t23 fun t48 =>
  binT .lss t46 t48 fun t49 =>
  condT t49
  (fadT 1 t4 fun t51 =>
  ldT t51 (w2.drew) fun t52 =>
  ixaT 2 t2 (.int .i64 1) fun t54 =>
  ldsT 2 t54 (w2.drew) fun t55 =>
  ixaT 2 t23 t52 fun t56 =>
  stsT 2 t56 t55 (w2.drew) fun w8 =>
  R (.tuple #[]) w8)
  (R (.tuple #[]) w2))
  (binT .eql t26 (.int .i64 17) fun t58 =>
  condT t58
  (clT PR 225 [t24] w2 fun t61 w9 =>
  clT PR 223 [t0, t61] w9 fun t62 w10 =>
  R (.tuple #[]) w10)
  (binT .eql t26 (.int .i64 18) fun t64 =>
  condT t64
  (clT PR 224 [t22] w2 fun t67 w11 =>
  clT PR 223 [t0, t67] w11 fun t68 w12 =>
  R (.tuple #[]) w12)
  (R (.tuple #[]) w2))))
def Fimpl_look.H : Hints := {draw := fun i => match i with | 1 => { T := [0, 0, 2, 6, 14, 1, 33, 97, 255, 511, 1023, 1023, 1023, 1023, 2047, 20479, 57343, 131071] } | 10 => { T := [0, 0, 2, 0, 8, 24, 63, 127] } | _ => {}}
theorem Fimpl_look.eq (t0 t1 t2 : Value) : trF PR CX Fimpl_look.H Tryz.f227 [t0, t1, t2] = Fimpl_look t0 t1 t2 := by kernel_rfl
theorem Fimpl_look.cl {t0 t1 t2 : Value} {w : World} {R : VW} (h : Fimpl_look t0 t1 t2 w R) : clT PR 227 [t0, t1, t2] w R := cl_of_tr (H := Fimpl_look.H) ctxOk Tryz.func227 rfl (by rw [Fimpl_look.eq]; exact h)

/-! function 278: slices_Grow_Val -/
def Fslices_Grow_Val.j1 (x0 x1 : Value) (w : World) (R : VW) : Prop := ∀ _ : Env,
  opT PR (Builtin.cap_ #[35] 3 #[x0]) w fun t10 w1 =>
  lenT x0 fun t12 =>
  binT .sub t10 t12 fun t13 =>
  binT .sub x1 t13 fun t14 =>
  binT .gtr t14 (.int .i64 0) fun t16 =>
  condT t16
  (opT PR (Builtin.cap_ #[35] 3 #[x0]) w1 fun t19 w2 =>
  opT PR (Instr.sliceAt 35 x0 none (some t19) none) w2 fun t20 w3 =>
  opT PR (Builtin.append_ #[35, 3] 35 #[t20, t14]) w3 fun t22 w4 =>
  lenT x0 fun t24 =>
  opT PR (Instr.sliceAt 35 t22 none (some t24) none) w4 fun t25 w5 =>
  R t25 w5)
  (R x0 w1)
def Fslices_Grow_Val (t0 t1 : Value) (w : World) (R : VW) : Prop :=
  binT .lss t1 (.int .i64 0) fun t6 =>
  condT t6
  (False)
  (Fslices_Grow_Val.j1 t0 t1 w R)
def Fslices_Grow_Val.H : Hints := {join := fun i => match i with | 6 => some [0, 1] | _ => none}
theorem Fslices_Grow_Val.eq (t0 t1 : Value) : trF PR CX Fslices_Grow_Val.H Tryz.f278 [t0, t1] = Fslices_Grow_Val t0 t1 := by kernel_rfl
theorem Fslices_Grow_Val.cl {t0 t1 : Value} {w : World} {R : VW} (h : Fslices_Grow_Val t0 t1 w R) : clT PR 278 [t0, t1] w R := cl_of_tr (H := Fslices_Grow_Val.H) ctxOk Tryz.func278 rfl (by rw [Fslices_Grow_Val.eq]; exact h)

/-! function 329: impl_Heap_enter -/
def Fimpl_Heap_enter (t0 t1 t2 t3 : Value) (w : World) (R : VW) : Prop :=
  boxT 42 t1 w fun t5 w1 =>
  nilT PR t0 fun t10 =>
  fadT 0 t10 fun t11 =>
  ldT t11 (w1.drew) fun t12 =>
  ldsT 1 t5 (w1.drew) fun t13 =>
  nilT PR t0 fun t17 =>
  fadT 1 t17 fun t18 =>
  ldT t18 (w1.drew) fun t19 =>
  clT PR 157 [t13, t2, t3, t19] (w1.drew) fun t20 w2 =>
  (ldT t11 w2 fun u => u = t12) ∧
  bslT 89 1 6 #[(.int .i64 0), (.int .i64 0), (.slice none 0 0), (.slice none 0 0), (.int .i64 0), (.bool false)] [(0, 6, t20)] w2 fun t21 w3 =>
  (ldT t11 w3 fun u => u = t12) ∧
  opT PR (Builtin.append_ #[55, 55] 55 #[t12, t21]) w3 fun t22 w4 =>
  nilT PR t0 fun t23 =>
  fadT 0 t23 fun t24 =>
  stT t24 t22 w4 fun w5 =>
  nilT PR t0 fun t27 =>
  fadT 0 t27 fun t28 =>
  ldT t28 w5 fun t29 =>
  lenT t29 fun t30 =>
  binT .sub t30 (.int .i64 1) fun t31 =>
  nilT PR t0 fun t32 =>
  fadT 1 t32 fun t33 =>
  stT t33 t31 w5 fun w6 =>
  nilT PR t0 fun t35 =>
  fadT 2 t35 fun t36 =>
  ldT t36 w6 fun t37 =>
  binT .add t37 (.int .i64 1) fun t38 =>
  nilT PR t0 fun t39 =>
  fadT 2 t39 fun t40 =>
  stT t40 t38 w6 fun w7 =>
  R (.tuple #[]) w7
def Fimpl_Heap_enter.H : Hints := {draw := fun i => match i with | 1 => { T := [0, 0, 2, 6, 14, 0, 0, 0, 0, 256, 768, 1792, 4064, 8160, 16382, 32767, 65535, 131071] } | _ => {}}
theorem Fimpl_Heap_enter.eq (t0 t1 t2 t3 : Value) : trF PR CX Fimpl_Heap_enter.H Tryz.f329 [t0, t1, t2, t3] = Fimpl_Heap_enter t0 t1 t2 t3 := by kernel_rfl
theorem Fimpl_Heap_enter.cl {t0 t1 t2 t3 : Value} {w : World} {R : VW} (h : Fimpl_Heap_enter t0 t1 t2 t3 w R) : clT PR 329 [t0, t1, t2, t3] w R := cl_of_tr (H := Fimpl_Heap_enter.H) ctxOk Tryz.func329 rfl (by rw [Fimpl_Heap_enter.eq]; exact h)

/-! function 330: impl_Heap_full -/
def Fimpl_Heap_full (t0 : Value) (w : World) (R : VW) : Prop :=
  nilT PR t0 fun t4 =>
  fadT 2 t4 fun t5 =>
  ldT t5 w fun t6 =>
  binT .eql t6 (.int .i64 30) fun t7 =>
  R t7 w
def Fimpl_Heap_full.H : Hints := {}
theorem Fimpl_Heap_full.eq (t0 : Value) : trF PR CX Fimpl_Heap_full.H Tryz.f330 [t0] = Fimpl_Heap_full t0 := by kernel_rfl
theorem Fimpl_Heap_full.cl {t0 : Value} {w : World} {R : VW} (h : Fimpl_Heap_full t0 w R) : clT PR 330 [t0] w R := cl_of_tr (H := Fimpl_Heap_full.H) ctxOk Tryz.func330 rfl (by rw [Fimpl_Heap_full.eq]; exact h)

/-! function 331: impl_Heap_here -/
def Fimpl_Heap_here (t0 : Value) (w : World) (R : VW) : Prop :=
  allocT 78 #[(.int .i64 0), (.int .i64 0)] w fun t2 w1 =>
  nilT PR t0 fun t4 =>
  fadT 1 t4 fun t5 =>
  ldT t5 w1 fun t6 =>
  clT PR 338 [t6] w1 fun t7 w2 =>
  stsT 2 t2 t7 w2 fun w3 =>
  ldsT 2 t2 w3 fun r4 =>
  R r4 w3
def Fimpl_Heap_here.H : Hints := {}
theorem Fimpl_Heap_here.eq (t0 : Value) : trF PR CX Fimpl_Heap_here.H Tryz.f331 [t0] = Fimpl_Heap_here t0 := by kernel_rfl
theorem Fimpl_Heap_here.cl {t0 : Value} {w : World} {R : VW} (h : Fimpl_Heap_here t0 w R) : clT PR 331 [t0] w R := cl_of_tr (H := Fimpl_Heap_here.H) ctxOk Tryz.func331 rfl (by rw [Fimpl_Heap_here.eq]; exact h)

/-! function 332: impl_Heap_leave -/
def Fimpl_Heap_leave (t0 : Value) (w : World) (R : VW) : Prop :=
  nilT PR t0 fun t5 =>
  fadT 0 t5 fun t6 =>
  ldT t6 (w.drew) fun t7 =>
  nilT PR t0 fun t9 =>
  fadT 1 t9 fun t10 =>
  ldT t10 (w.drew) fun t11 =>
  ixaT 6 t7 t11 fun t12 =>
  nilT PR t12 fun t15 =>
  fadT 4 t15 fun t16 =>
  ldT t16 (w.drew) fun t17 =>
  nilT PR t0 fun t18 =>
  fadT 1 t18 fun t19 =>
  stT t19 t17 (w.drew) fun w1 =>
  nilT PR t12 fun t23 =>
  fadT 5 t23 fun t24 =>
  stT t24 (.bool true) w1 fun w2 =>
  nilT PR t12 fun t25 =>
  fadT 3 t25 fun t26 =>
  stT t26 (.slice none 0 0) w2 fun w3 =>
  nilT PR t12 fun t27 =>
  fadT 4 t27 fun t28 =>
  stT t28 (.int .i64 (-1)) w3 fun w4 =>
  nilT PR t0 fun t30 =>
  fadT 1 t30 fun t31 =>
  ldT t31 w4 fun t32 =>
  binT .geq t32 (.int .i64 0) fun t33 =>
  R t33 w4
def Fimpl_Heap_leave.H : Hints := {draw := fun i => match i with | 1 => { T := [0, 1, 3, 7, 0, 16, 48, 112, 255, 511] } | _ => {}}
theorem Fimpl_Heap_leave.eq (t0 : Value) : trF PR CX Fimpl_Heap_leave.H Tryz.f332 [t0] = Fimpl_Heap_leave t0 := by kernel_rfl
theorem Fimpl_Heap_leave.cl {t0 : Value} {w : World} {R : VW} (h : Fimpl_Heap_leave t0 w R) : clT PR 332 [t0] w R := cl_of_tr (H := Fimpl_Heap_leave.H) ctxOk Tryz.func332 rfl (by rw [Fimpl_Heap_leave.eq]; exact h)

/-! function 333: impl_Heap_looked -/
def Fimpl_Heap_looked (t0 t1 : Value) (w : World) (R : VW) : Prop :=
  nilT PR t0 fun t10 =>
  fadT 0 t10 fun t11 =>
  ldT t11 w fun t12 =>
  ixaT 6 t12 t1 fun t14 =>
  ldsT 6 t14 w fun t15 =>
  allocT 89 #[(.int .i64 0), (.int .i64 0), (.slice none 0 0), (.slice none 0 0), (.int .i64 0), (.bool false)] w fun t8 w1 =>
  stsT 6 t8 t15 w1 fun w2 =>
  fadT 0 t8 fun t16 =>
  ldT t16 (w2.drew) fun t17 =>
  fadT 1 t8 fun t18 =>
  ldT t18 (w2.drew) fun t19 =>
  fadT 2 t8 fun t20 =>
  ldT t20 (w2.drew) fun t21 =>
  fadT 5 t8 fun t22 =>
  ldT t22 (w2.drew) fun t23 =>
  R (.tuple #[t17, t19, t21, t23]) (w2.drew)
def Fimpl_Heap_looked.H : Hints := {draw := fun i => match i with | 2 => { T := [0, 1, 0, 4, 0, 16, 0, 64, 3, 271, 831, 2047] } | _ => {}}
theorem Fimpl_Heap_looked.eq (t0 t1 : Value) : trF PR CX Fimpl_Heap_looked.H Tryz.f333 [t0, t1] = Fimpl_Heap_looked t0 t1 := by kernel_rfl
theorem Fimpl_Heap_looked.cl {t0 t1 : Value} {w : World} {R : VW} (h : Fimpl_Heap_looked t0 t1 w R) : clT PR 333 [t0, t1] w R := cl_of_tr (H := Fimpl_Heap_looked.H) ctxOk Tryz.func333 rfl (by rw [Fimpl_Heap_looked.eq]; exact h)

/-! function 334: impl_Heap_running -/
def Fimpl_Heap_running (t0 : Value) (w : World) (R : VW) : Prop :=
  nilT PR t0 fun t8 =>
  fadT 0 t8 fun t9 =>
  ldT t9 (w.drew) fun t10 =>
  nilT PR t0 fun t12 =>
  fadT 1 t12 fun t13 =>
  ldT t13 (w.drew) fun t14 =>
  ixaT 6 t10 t14 fun t15 =>
  nilT PR t15 fun t17 =>
  fadT 0 t17 fun t18 =>
  ldT t18 ((w.drew).drew) fun t19 =>
  nilT PR t15 fun t21 =>
  fadT 1 t21 fun t22 =>
  nilT PR t15 fun t24 =>
  fadT 2 t24 fun t25 =>
  ldT t25 ((w.drew).drew) fun t26 =>
  nilT PR t15 fun t28 =>
  fadT 3 t28 fun t29 =>
  R (.tuple #[t19, t22, t26, t29]) ((w.drew).drew)
def Fimpl_Heap_running.H : Hints := {draw := fun i => match i with | 1 => { T := [0, 1, 3, 7, 0, 16, 48, 112, 255, 511] } | 2 => { T := [0, 1, 3, 7, 0, 16, 48, 0, 128, 384, 896, 0, 2048, 6144, 15, 16511, 51199, 131071] } | _ => {}}
theorem Fimpl_Heap_running.eq (t0 : Value) : trF PR CX Fimpl_Heap_running.H Tryz.f334 [t0] = Fimpl_Heap_running t0 := by kernel_rfl
theorem Fimpl_Heap_running.cl {t0 : Value} {w : World} {R : VW} (h : Fimpl_Heap_running t0 w R) : clT PR 334 [t0] w R := cl_of_tr (H := Fimpl_Heap_running.H) ctxOk Tryz.func334 rfl (by rw [Fimpl_Heap_running.eq]; exact h)

/-! function 335: impl_Heap_say -/
def Fimpl_Heap_say (t0 t1 : Value) (w : World) (R : VW) : Prop :=
  boxT 78 t1 w fun t3 w1 =>
  nilT PR t0 fun t6 =>
  fadT 3 t6 fun t7 =>
  ldT t7 (w1.drew) fun t8 =>
  ldsT 2 t3 (w1.drew) fun t9 =>
  bslT 78 1 2 #[(.int .i64 0), (.int .i64 0)] [(0, 2, t9)] (w1.drew) fun t10 w2 =>
  (ldT t7 w2 fun u => u = t8) ∧
  opT PR (Builtin.append_ #[35, 35] 35 #[t8, t10]) w2 fun t11 w3 =>
  nilT PR t0 fun t12 =>
  fadT 3 t12 fun t13 =>
  stT t13 t11 w3 fun w4 =>
  R (.tuple #[]) w4
def Fimpl_Heap_say.H : Hints := {draw := fun i => match i with | 1 => { T := [0, 0, 2, 6, 14, 0, 32, 126, 255, 511, 1023] } | _ => {}}
theorem Fimpl_Heap_say.eq (t0 t1 : Value) : trF PR CX Fimpl_Heap_say.H Tryz.f335 [t0, t1] = Fimpl_Heap_say t0 t1 := by kernel_rfl
theorem Fimpl_Heap_say.cl {t0 t1 : Value} {w : World} {R : VW} (h : Fimpl_Heap_say t0 t1 w R) : clT PR 335 [t0, t1] w R := cl_of_tr (H := Fimpl_Heap_say.H) ctxOk Tryz.func335 rfl (by rw [Fimpl_Heap_say.eq]; exact h)

/-! function 336: impl_Heap_sender -/
def Fimpl_Heap_sender (t0 t1 : Value) (w : World) (R : VW) : Prop :=
  allocT 78 #[(.int .i64 0), (.int .i64 0)] w fun t4 w1 =>
  nilT PR t0 fun t6 =>
  fadT 0 t6 fun t7 =>
  ldT t7 w1 fun t8 =>
  ixaT 6 t8 t1 fun t10 =>
  fadT 4 t10 fun t11 =>
  ldT t11 w1 fun t12 =>
  binT .lss t12 (.int .i64 0) fun t13 =>
  condT t13
  (bldT #[(.int .i64 0), (.int .i64 0)] [] fun t14 =>
  stsT 2 t4 t14 w1 fun w2 =>
  ldsT 2 t4 w2 fun r3 =>
  R r3 w2)
  (nilT PR t0 fun t16 =>
  fadT 0 t16 fun t17 =>
  ldT t17 w1 fun t18 =>
  ixaT 6 t18 t1 fun t20 =>
  fadT 4 t20 fun t21 =>
  ldT t21 w1 fun t22 =>
  clT PR 338 [t22] w1 fun t23 w4 =>
  stsT 2 t4 t23 w4 fun w5 =>
  ldsT 2 t4 w5 fun r6 =>
  R r6 w5)
def Fimpl_Heap_sender.H : Hints := {}
theorem Fimpl_Heap_sender.eq (t0 t1 : Value) : trF PR CX Fimpl_Heap_sender.H Tryz.f336 [t0, t1] = Fimpl_Heap_sender t0 t1 := by kernel_rfl
theorem Fimpl_Heap_sender.cl {t0 t1 : Value} {w : World} {R : VW} (h : Fimpl_Heap_sender t0 t1 w R) : clT PR 336 [t0, t1] w R := cl_of_tr (H := Fimpl_Heap_sender.H) ctxOk Tryz.func336 rfl (by rw [Fimpl_Heap_sender.eq]; exact h)

/-! function 337: impl_Heap_upTo -/
def Fimpl_Heap_upTo.l1 (x0 x1 : Value) (w : World) (Kn Kb Kr : LW) : Prop := ∀ _ : Env,
  nilT PR x0 fun t5 =>
  fadT 1 t5 fun t6 =>
  ldT t6 w fun t7 =>
  binT .neq t7 x1 fun t9 =>
  condT t9
  (clT PR 332 [x0] w fun t11 w1 =>
  Kn [x0, x1] w1)
  (Kb [x0, x1] w)
def Fimpl_Heap_upTo.k2 (x0 x1 : Value) (w : World) (R : VW) : Prop := ∀ _ : Env,
  R (.tuple #[]) w
def Fimpl_Heap_upTo.r3 (x0 x1 : Value) (w : World) (R : VW) : Prop := ∀ _ : Env,
  R (.tuple #[]) w
def Fimpl_Heap_upTo (t0 t1 : Value) (w : World) (R : VW) : Prop :=
  loopT (fun s w Kn Kb Kr => Fimpl_Heap_upTo.l1 (s.headD undef) (s.tail.headD undef) w Kn Kb Kr) [t0, t1] w
  (fun s w => Fimpl_Heap_upTo.k2 (s.headD undef) (s.tail.headD undef) w R)
  (fun s w => Fimpl_Heap_upTo.r3 (s.headD undef) (s.tail.headD undef) w R)
def Fimpl_Heap_upTo.H : Hints := {loop := fun i => match i with | 0 => some (0, [0, 1]) | _ => none}
theorem Fimpl_Heap_upTo.eq (t0 t1 : Value) : trF PR CX Fimpl_Heap_upTo.H Tryz.f337 [t0, t1] = Fimpl_Heap_upTo t0 t1 := by kernel_rfl
theorem Fimpl_Heap_upTo.cl {t0 t1 : Value} {w : World} {R : VW} (h : Fimpl_Heap_upTo t0 t1 w R) : clT PR 337 [t0, t1] w R := cl_of_tr (H := Fimpl_Heap_upTo.H) ctxOk Tryz.func337 rfl (by rw [Fimpl_Heap_upTo.eq]; exact h)

/-! function 338: impl_call -/
def Fimpl_call (t0 : Value) (w : World) (R : VW) : Prop :=
  allocT 78 #[(.int .i64 0), (.int .i64 0)] w fun t2 w1 =>
  bldT #[(.int .i64 0), (.int .i64 0)] [(0, 1, (.int .i64 2)), (1, 1, t0)] fun t4 =>
  stsT 2 t2 t4 w1 fun w2 =>
  ldsT 2 t2 w2 fun r3 =>
  R r3 w2
def Fimpl_call.H : Hints := {}
theorem Fimpl_call.eq (t0 : Value) : trF PR CX Fimpl_call.H Tryz.f338 [t0] = Fimpl_call t0 := by kernel_rfl
theorem Fimpl_call.cl {t0 : Value} {w : World} {R : VW} (h : Fimpl_call t0 w R) : clT PR 338 [t0] w R := cl_of_tr (H := Fimpl_call.H) ctxOk Tryz.func338 rfl (by rw [Fimpl_call.eq]; exact h)
end Go.PT
