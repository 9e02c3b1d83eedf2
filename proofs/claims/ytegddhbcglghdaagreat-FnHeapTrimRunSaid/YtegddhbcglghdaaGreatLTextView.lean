/- The reflected texts of functions of the program, and that a call keeps what its text says. -/
import Derived.Test.YtegddhbcglghdaaGreatCtx
set_option linter.unusedVariables false
set_option maxRecDepth 100000
namespace Go.PT
open Go.Proofs
/-! function 60: impl_HeapView -/
def Fimpl_HeapView.l3 (x1 x2 x4 x5 x6 x7 x8 x10 x54 x55 x56 x60 x61 x62 : Value) (w : World) (Kn Kb Kr : LW) : Prop := ∀ _ : Env,
  binT .lss x62 x61 fun t63 =>
  condT t63
  (ixaT 2 x60 x62 fun t65 =>
  ldsT 2 t65 w fun t66 =>
  allocT 78 #[(.int .i64 0), (.int .i64 0)] w fun t12 w21 =>
  stsT 2 t12 t66 w21 fun w22 =>
  fadT 0 t12 fun t67 =>
  ldT t67 w22 fun t68 =>
  binT .eql t68 (.int .i64 2) fun t69 =>
  condT t69
  (fadT 1 t12 fun t73 =>
  ldT t73 w22 fun t74 =>
  clvT PR CX x5 [t74] w22 fun t75 w23 =>
  ixaT 2 x10 x62 fun t76 =>
  fadT 1 t76 fun t77 =>
  stT t77 t75 w23 fun w24 =>
  binT .add x62 (.int .i64 1) fun t78 =>
  Kn [x1, x2, x4, x5, x6, x7, x8, x10, x54, x55, x56, x60, x61, t78] w24)
  (binT .add x62 (.int .i64 1) fun t78 =>
  Kn [x1, x2, x4, x5, x6, x7, x8, x10, x54, x55, x56, x60, x61, t78] w22))
  (Kb [x1, x2, x4, x5, x6, x7, x8, x10, x54, x55, x56, x60, x61, x62] w)
def Fimpl_HeapView.k4 (x1 x2 x4 x5 x6 x7 x8 x10 x54 x55 x56 x60 x61 x62 : Value) (w : World) (Kn Kb Kr : LW) : Prop := ∀ _ : Env,
  binT .add x56 (.int .i64 1) fun t79 =>
  Kn [x1, x2, x4, x5, x6, x7, x8, x54, x55, t79] w
def Fimpl_HeapView.r5 (x1 x2 x4 x5 x6 x7 x8 x10 x54 x55 x56 x60 x61 x62 : Value) (w : World) (Kn Kb Kr : LW) : Prop := ∀ _ : Env,
  Kr [x1, x2, x4, x5, x6, x7, x8, x54, x55, x56] w
def Fimpl_HeapView.l2 (x1 x2 x4 x5 x6 x7 x8 x54 x55 x56 : Value) (w : World) (Kn Kb Kr : LW) : Prop := ∀ _ : Env,
  binT .lss x56 x55 fun t57 =>
  condT t57
  (ixaT 1 x54 x56 fun t58 =>
  ldT t58 w fun t59 =>
  lenT t59 fun t61 =>
  loopT (fun s w Kn Kb Kr => Fimpl_HeapView.l3 (s.headD undef) (s.tail.headD undef) (s.tail.tail.headD undef) (s.tail.tail.tail.headD undef) (s.tail.tail.tail.tail.headD undef) (s.tail.tail.tail.tail.tail.headD undef) (s.tail.tail.tail.tail.tail.tail.headD undef) (s.tail.tail.tail.tail.tail.tail.tail.headD undef) (s.tail.tail.tail.tail.tail.tail.tail.tail.headD undef) (s.tail.tail.tail.tail.tail.tail.tail.tail.tail.headD undef) (s.tail.tail.tail.tail.tail.tail.tail.tail.tail.tail.headD undef) (s.tail.tail.tail.tail.tail.tail.tail.tail.tail.tail.tail.headD undef) (s.tail.tail.tail.tail.tail.tail.tail.tail.tail.tail.tail.tail.headD undef) (s.tail.tail.tail.tail.tail.tail.tail.tail.tail.tail.tail.tail.tail.headD undef) w Kn Kb Kr) [x1, x2, x4, x5, x6, x7, x8, t59, x54, x55, x56, t59, t61, (.int .i64 0)] w
  (fun s w => Fimpl_HeapView.k4 (s.headD undef) (s.tail.headD undef) (s.tail.tail.headD undef) (s.tail.tail.tail.headD undef) (s.tail.tail.tail.tail.headD undef) (s.tail.tail.tail.tail.tail.headD undef) (s.tail.tail.tail.tail.tail.tail.headD undef) (s.tail.tail.tail.tail.tail.tail.tail.headD undef) (s.tail.tail.tail.tail.tail.tail.tail.tail.headD undef) (s.tail.tail.tail.tail.tail.tail.tail.tail.tail.headD undef) (s.tail.tail.tail.tail.tail.tail.tail.tail.tail.tail.headD undef) (s.tail.tail.tail.tail.tail.tail.tail.tail.tail.tail.tail.headD undef) (s.tail.tail.tail.tail.tail.tail.tail.tail.tail.tail.tail.tail.headD undef) (s.tail.tail.tail.tail.tail.tail.tail.tail.tail.tail.tail.tail.tail.headD undef) w Kn Kb Kr)
  (fun s w => Fimpl_HeapView.r5 (s.headD undef) (s.tail.headD undef) (s.tail.tail.headD undef) (s.tail.tail.tail.headD undef) (s.tail.tail.tail.tail.headD undef) (s.tail.tail.tail.tail.tail.headD undef) (s.tail.tail.tail.tail.tail.tail.headD undef) (s.tail.tail.tail.tail.tail.tail.tail.headD undef) (s.tail.tail.tail.tail.tail.tail.tail.tail.headD undef) (s.tail.tail.tail.tail.tail.tail.tail.tail.tail.headD undef) (s.tail.tail.tail.tail.tail.tail.tail.tail.tail.tail.headD undef) (s.tail.tail.tail.tail.tail.tail.tail.tail.tail.tail.tail.headD undef) (s.tail.tail.tail.tail.tail.tail.tail.tail.tail.tail.tail.tail.headD undef) (s.tail.tail.tail.tail.tail.tail.tail.tail.tail.tail.tail.tail.tail.headD undef) w Kn Kb Kr))
  (Kb [x1, x2, x4, x5, x6, x7, x8, x54, x55, x56] w)
def Fimpl_HeapView.k6 (x1 x2 x4 x5 x6 x7 x8 x54 x55 x56 : Value) (w : World) (Kn Kb Kr : LW) : Prop := ∀ _ : Env,
  ldsT 6 x8 w fun t81 =>
  bslT 89 1 6 #[(.int .i64 0), (.int .i64 0), (.slice none 0 0), (.slice none 0 0), (.int .i64 0), (.bool false)] [(0, 6, t81)] w fun t82 w25 =>
  opT PR (Builtin.append_ #[55, 55] 55 #[x6, t82]) w25 fun t83 w26 =>
  binT .add x7 (.int .i64 1) fun t32 =>
  Kn [x1, x2, x4, x5, t83, t32] w26
def Fimpl_HeapView.r7 (x1 x2 x4 x5 x6 x7 x8 x54 x55 x56 : Value) (w : World) (Kn Kb Kr : LW) : Prop := ∀ _ : Env,
  Kr [x1, x2, x4, x5, x6, x7] w
def Fimpl_HeapView.j1 (x1 x2 x4 x5 x6 x7 x8 : Value) (w : World) (Kn Kb Kr : LW) : Prop := ∀ _ : Env,
  fadT 2 x8 fun t50 =>
  ldT t50 w fun t51 =>
  fadT 3 x8 fun t52 =>
  ldT t52 w fun t53 =>
  bslT 35 2 1 #[(.slice none 0 0)] [(0, 1, t51), (1, 1, t53)] w fun t54 w20 =>
  lenT t54 fun t55 =>
  loopT (fun s w Kn Kb Kr => Fimpl_HeapView.l2 (s.headD undef) (s.tail.headD undef) (s.tail.tail.headD undef) (s.tail.tail.tail.headD undef) (s.tail.tail.tail.tail.headD undef) (s.tail.tail.tail.tail.tail.headD undef) (s.tail.tail.tail.tail.tail.tail.headD undef) (s.tail.tail.tail.tail.tail.tail.tail.headD undef) (s.tail.tail.tail.tail.tail.tail.tail.tail.headD undef) (s.tail.tail.tail.tail.tail.tail.tail.tail.tail.headD undef) w Kn Kb Kr) [x1, x2, x4, x5, x6, x7, x8, t54, t55, (.int .i64 0)] w20
  (fun s w => Fimpl_HeapView.k6 (s.headD undef) (s.tail.headD undef) (s.tail.tail.headD undef) (s.tail.tail.tail.headD undef) (s.tail.tail.tail.tail.headD undef) (s.tail.tail.tail.tail.tail.headD undef) (s.tail.tail.tail.tail.tail.tail.headD undef) (s.tail.tail.tail.tail.tail.tail.tail.headD undef) (s.tail.tail.tail.tail.tail.tail.tail.tail.headD undef) (s.tail.tail.tail.tail.tail.tail.tail.tail.tail.headD undef) w Kn Kb Kr)
  (fun s w => Fimpl_HeapView.r7 (s.headD undef) (s.tail.headD undef) (s.tail.tail.headD undef) (s.tail.tail.tail.headD undef) (s.tail.tail.tail.tail.headD undef) (s.tail.tail.tail.tail.tail.headD undef) (s.tail.tail.tail.tail.tail.tail.headD undef) (s.tail.tail.tail.tail.tail.tail.tail.headD undef) (s.tail.tail.tail.tail.tail.tail.tail.tail.headD undef) (s.tail.tail.tail.tail.tail.tail.tail.tail.tail.headD undef) w Kn Kb Kr)
def Fimpl_HeapView.l1 (x1 x2 x4 x5 x6 x7 : Value) (w : World) (Kn Kb Kr : LW) : Prop := ∀ _ : Env,
  ldT x4 w fun t28 =>
  lenT t28 fun t29 =>
  binT .lss x7 t29 fun t30 =>
  condT t30
  (fadT 0 x1 fun t33 =>
  ldT t33 (w.drew) fun t34 =>
  ldT x4 (w.drew) fun t35 =>
  ixaT 1 t35 x7 fun t37 =>
  ldT t37 (w.drew) fun t38 =>
  ixaT 6 t34 t38 fun t39 =>
  ldsT 6 t39 (w.drew) fun t40 =>
  arT [(89, #[(.int .i64 0), (.int .i64 0), (.slice none 0 0), (.slice none 0 0), (.int .i64 0), (.bool false)])] (w.drew) [none] fun w8 s9 =>
  clT PR 125 [t40] w8 fun t41 w10 =>
  arT [(89, #[(.int .i64 0), (.int .i64 0), (.slice none 0 0), (.slice none 0 0), (.int .i64 0), (.bool false)])] w10 s9 fun w11 s12 =>
  ndT s12 0 fun b13 =>
  stsT 6 (.pointer (some ⟨b13, 0, none⟩)) t41 w11 fun w14 =>
  arT [(89, #[(.int .i64 0), (.int .i64 0), (.slice none 0 0), (.slice none 0 0), (.int .i64 0), (.bool false)])] w14 s12 fun w15 s16 =>
  ndT s16 0 fun b17 =>
  fadT 4 (.pointer (some ⟨b17, 0, none⟩)) fun t42 =>
  ldT t42 w15 fun t43 =>
  binT .geq t43 (.int .i64 0) fun t44 =>
  condT t44
  (fadT 4 (.pointer (some ⟨b17, 0, none⟩)) fun t46 =>
  ldT t46 w15 fun t47 =>
  clvT PR CX x5 [t47] w15 fun t48 w18 =>
  fadT 4 (.pointer (some ⟨b17, 0, none⟩)) fun t49 =>
  stT t49 t48 w18 fun w19 =>
  Fimpl_HeapView.j1 x1 x2 x4 x5 x6 x7 (.pointer (some ⟨b17, 0, none⟩)) w19 Kn Kb Kr)
  (Fimpl_HeapView.j1 x1 x2 x4 x5 x6 x7 (.pointer (some ⟨b17, 0, none⟩)) w15 Kn Kb Kr))
  (Kb [x1, x2, x4, x5, x6, x7] w)
def Fimpl_HeapView.k8 (x1 x2 x4 x5 x6 x7 : Value) (w : World) (R : VW) : Prop := ∀ _ : Env,
  R x6 w
def Fimpl_HeapView.r9 (x1 x2 x4 x5 x6 x7 : Value) (w : World) (R : VW) : Prop := ∀ _ : Env,
  R x2 w
def Fimpl_HeapView (t0 : Value) (w : World) (R : VW) : Prop :=
  boxT 57 t0 w fun t1 w1 =>
  fadT 1 t1 fun t13 =>
  ldT t13 w1 fun t14 =>
  fadT 0 t1 fun t15 =>
  ldT t15 w1 fun t16 =>
  lenT t16 fun t17 =>
  binT .sub t17 (.int .i64 1) fun t18 =>
  clT PR 147 [t14, (.int .i64 0), t18] w1 fun t19 w2 =>
  notT t19 fun t20 =>
  condT t20
  (R (.slice none 0 0) w2)
  (opT PR (Instr.makeMap 167 none) w2 fun t21 w3 =>
  allocT 167 #[(.map none)] w3 fun t3 w4 =>
  stT t3 t21 w4 fun w5 =>
  allocT 26 #[(.slice none 0 0)] w5 fun t4 w6 =>
  fadT 1 t1 fun t24 =>
  ldT t24 w6 fun t25 =>
  clvT PR CX (.func (.func 148) #[] #[t1, t3, t4]) [t25] w6 fun t26 w7 =>
  loopT (fun s w Kn Kb Kr => Fimpl_HeapView.l1 (s.headD undef) (s.tail.headD undef) (s.tail.tail.headD undef) (s.tail.tail.tail.headD undef) (s.tail.tail.tail.tail.headD undef) (s.tail.tail.tail.tail.tail.headD undef) w Kn Kb Kr) [t1, (.slice none 0 0), t4, (.func (.func 148) #[] #[t1, t3, t4]), (.slice none 0 0), (.int .i64 0)] w7
  (fun s w => Fimpl_HeapView.k8 (s.headD undef) (s.tail.headD undef) (s.tail.tail.headD undef) (s.tail.tail.tail.headD undef) (s.tail.tail.tail.tail.headD undef) (s.tail.tail.tail.tail.tail.headD undef) w R)
  (fun s w => Fimpl_HeapView.r9 (s.headD undef) (s.tail.headD undef) (s.tail.tail.headD undef) (s.tail.tail.tail.headD undef) (s.tail.tail.tail.tail.headD undef) (s.tail.tail.tail.tail.tail.headD undef) w R))
def Fimpl_HeapView.H : Hints := {draw := fun i => match i with | 11 => { T := [0, 1, 0, 0, 12, 28, 63, 127, 255, 0, 1023], F := [9] } | _ => {}, loop := fun i => match i with | 9 => some (0, [1, 2, 4, 5, 6, 7]) | 15 => some (2, [1, 2, 4, 5, 6, 7, 8, 54, 55, 56]) | 18 => some (4, [1, 2, 4, 5, 6, 7, 8, 10, 54, 55, 56, 60, 61, 62]) | _ => none, join := fun i => match i with | 44 => some [1, 2, 4, 5, 6, 7, 8] | _ => none}
theorem Fimpl_HeapView.eq (t0 : Value) : trF PR CX Fimpl_HeapView.H Tryz.f60 [t0] = Fimpl_HeapView t0 := by kernel_rfl
theorem Fimpl_HeapView.cl {t0 : Value} {w : World} {R : VW} (h : Fimpl_HeapView t0 w R) : clT PR 60 [t0] w R := cl_of_tr (H := Fimpl_HeapView.H) ctxOk Tryz.func60 rfl (by rw [Fimpl_HeapView.eq]; exact h)

/-! function 71: impl_HeapTrim -/
def Fimpl_HeapTrim (t0 t1 : Value) (w : World) (R : VW) : Prop :=
  boxT 42 t0 w fun t2 w1 =>
  boxT 57 t1 w1 fun t3 w2 =>
  allocT 57 #[(.slice none 0 0), (.int .i64 0), (.int .i64 0), (.slice none 0 0), (.int .i64 0)] w2 fun t4 w3 =>
  ldsT 1 t2 w3 fun t7 =>
  ldsT 5 t3 w3 fun t8 =>
  clT PR 92 [t7, t8] w3 fun t9 w4 =>
  notT t9 fun t10 =>
  condT t10
  (bldT #[(.slice none 0 0), (.int .i64 0), (.int .i64 0), (.slice none 0 0), (.int .i64 0)] [] fun t11 =>
  stsT 5 t4 t11 w4 fun w5 =>
  ldsT 5 t4 w5 fun r6 =>
  R (.tuple #[r6, (.bool false)]) w5)
  (ldsT 5 t3 w4 fun t12 =>
  clT PR 60 [t12] w4 fun t13 w7 =>
  fadT 2 t3 fun t17 =>
  ldT t17 (w7.drew) fun t18 =>
  fadT 3 t3 fun t19 =>
  ldT t19 (w7.drew) fun t20 =>
  fadT 4 t3 fun t22 =>
  ldT t22 (w7.drew) fun t23 =>
  clT PR 155 [t13] (w7.drew) fun t16 w8 =>
  (ldT t22 w8 fun u => u = t23) ∧
  (ldT t19 w8 fun u => u = t20) ∧
  (ldT t17 w8 fun u => u = t18) ∧
  clT PR 124 [t20] w8 fun t21 w9 =>
  (ldT t22 w9 fun u => u = t23) ∧
  (ldT t17 w9 fun u => u = t18) ∧
  bldT #[(.slice none 0 0), (.int .i64 0), (.int .i64 0), (.slice none 0 0), (.int .i64 0)] [(0, 1, t13), (1, 1, t16), (2, 1, t18), (3, 1, t21), (4, 1, t23)] fun t24 =>
  stsT 5 t4 t24 w9 fun w10 =>
  ldsT 5 t4 w10 fun r11 =>
  R (.tuple #[r11, (.bool true)]) w10)
def Fimpl_HeapTrim.H : Hints := {draw := fun i => match i with | 4 => { T := [0, 0, 2, 0, 8, 0, 32, 102, 0, 256, 1023, 2047, 4095] } | _ => {}}
theorem Fimpl_HeapTrim.eq (t0 t1 : Value) : trF PR CX Fimpl_HeapTrim.H Tryz.f71 [t0, t1] = Fimpl_HeapTrim t0 t1 := by kernel_rfl
theorem Fimpl_HeapTrim.cl {t0 t1 : Value} {w : World} {R : VW} (h : Fimpl_HeapTrim t0 t1 w R) : clT PR 71 [t0, t1] w R := cl_of_tr (H := Fimpl_HeapTrim.H) ctxOk Tryz.func71 rfl (by rw [Fimpl_HeapTrim.eq]; exact h)

/-! function 81: impl_HeapDeep -/
def Fimpl_HeapDeep.l1 (x1 x2 x3 x4 : Value) (w : World) (Kn Kb Kr : LW) : Prop := ∀ _ : Env,
  binT .geq x4 (.int .i64 0) fun t8 =>
  condT t8
  (binT .add x3 (.int .i64 1) fun t16 =>
  fadT 0 x1 fun t18 =>
  ldT t18 w fun t19 =>
  lenT t19 fun t20 =>
  binT .geq x4 t20 fun t21 =>
  condT t21
  (Kr [x1, (.int .i64 0), t16, x4] w)
  (fadT 0 x1 fun t24 =>
  ldT t24 w fun t25 =>
  lenT t25 fun t26 =>
  binT .gtr t16 t26 fun t27 =>
  condT t27
  (Kr [x1, (.int .i64 0), t16, x4] w)
  (fadT 0 x1 fun t30 =>
  ldT t30 w fun t31 =>
  ixaT 6 t31 x4 fun t33 =>
  fadT 5 t33 fun t34 =>
  ldT t34 w fun t35 =>
  condT t35
  (Kr [x1, (.int .i64 0), t16, x4] w)
  (fadT 0 x1 fun t9 =>
  ldT t9 w fun t10 =>
  ixaT 6 t10 x4 fun t12 =>
  fadT 4 t12 fun t13 =>
  ldT t13 w fun t14 =>
  Kn [x1, x2, t16, t14] w))))
  (Kb [x1, x2, x3, x4] w)
def Fimpl_HeapDeep.k2 (x1 x2 x3 x4 : Value) (w : World) (R : VW) : Prop := ∀ _ : Env,
  R x3 w
def Fimpl_HeapDeep.r3 (x1 x2 x3 x4 : Value) (w : World) (R : VW) : Prop := ∀ _ : Env,
  R x2 w
def Fimpl_HeapDeep (t0 : Value) (w : World) (R : VW) : Prop :=
  boxT 57 t0 w fun t1 w1 =>
  fadT 1 t1 fun t5 =>
  ldT t5 w1 fun t6 =>
  loopT (fun s w Kn Kb Kr => Fimpl_HeapDeep.l1 (s.headD undef) (s.tail.headD undef) (s.tail.tail.headD undef) (s.tail.tail.tail.headD undef) w Kn Kb Kr) [t1, (.int .i64 0), (.int .i64 0), t6] w1
  (fun s w => Fimpl_HeapDeep.k2 (s.headD undef) (s.tail.headD undef) (s.tail.tail.headD undef) (s.tail.tail.tail.headD undef) w R)
  (fun s w => Fimpl_HeapDeep.r3 (s.headD undef) (s.tail.headD undef) (s.tail.tail.headD undef) (s.tail.tail.tail.headD undef) w R)
def Fimpl_HeapDeep.H : Hints := {loop := fun i => match i with | 3 => some (0, [1, 2, 3, 4]) | _ => none}
theorem Fimpl_HeapDeep.eq (t0 : Value) : trF PR CX Fimpl_HeapDeep.H Tryz.f81 [t0] = Fimpl_HeapDeep t0 := by kernel_rfl
theorem Fimpl_HeapDeep.cl {t0 : Value} {w : World} {R : VW} (h : Fimpl_HeapDeep t0 w R) : clT PR 81 [t0] w R := cl_of_tr (H := Fimpl_HeapDeep.H) ctxOk Tryz.func81 rfl (by rw [Fimpl_HeapDeep.eq]; exact h)

/-! function 148: impl_HeapView_1 -/
def Fimpl_HeapView_1 (t0 t1 t2 t3 : Value) (w : World) (R : VW) : Prop :=
  fadT 0 t1 fun t9 =>
  ldT t9 w fun t10 =>
  lenT t10 fun t11 =>
  binT .sub t11 (.int .i64 1) fun t12 =>
  clT PR 147 [t0, (.int .i64 0), t12] w fun t13 w1 =>
  notT t13 fun t14 =>
  condT t14
  (R (.int .i64 (-1)) w1)
  (ldT t2 w1 fun t16 =>
  opT PR (Instr.lookup 167 t16 t0 true) w1 fun t18 w2 =>
  extT t18 0 fun t19 =>
  extT t18 1 fun t20 =>
  notT t20 fun t22 =>
  condT t22
  (ldT t3 w2 fun t23 =>
  lenT t23 fun t24 =>
  ldT t2 w2 fun t25 =>
  opU PR (Instr.mapUpdate 167 t25 t0 t24) w2 fun w3 =>
  ldT t3 w3 fun t28 =>
  bslT 3 1 1 #[(.int .i64 0)] [(0, 1, t0)] w3 fun t30 w4 =>
  opT PR (Builtin.append_ #[26, 26] 26 #[t28, t30]) w4 fun t31 w5 =>
  stT t3 t31 w5 fun w6 =>
  R t24 w6)
  (R t19 w2))
def Fimpl_HeapView_1.H : Hints := {}
theorem Fimpl_HeapView_1.eq (t0 t1 t2 t3 : Value) : trF PR CX Fimpl_HeapView_1.H Tryz.f148 [t0, t1, t2, t3] = Fimpl_HeapView_1 t0 t1 t2 t3 := by kernel_rfl
theorem Fimpl_HeapView_1.cl {t0 t1 t2 t3 : Value} {w : World} {R : VW} (h : Fimpl_HeapView_1 t0 t1 t2 t3 w R) : clT PR 148 [t0, t1, t2, t3] w R := cl_of_tr (H := Fimpl_HeapView_1.H) ctxOk Tryz.func148 rfl (by rw [Fimpl_HeapView_1.eq]; exact h)

/-! function 155: impl_start -/
def Fimpl_start (t0 : Value) (w : World) (R : VW) : Prop :=
  lenT t0 fun t4 =>
  opT PR (Builtin.min_ #[3, 3] 3 #[t4, (.int .i64 1)]) w fun t5 w1 =>
  binT .sub t5 (.int .i64 1) fun t6 =>
  R t6 w1
def Fimpl_start.H : Hints := {}
theorem Fimpl_start.eq (t0 : Value) : trF PR CX Fimpl_start.H Tryz.f155 [t0] = Fimpl_start t0 := by kernel_rfl
theorem Fimpl_start.cl {t0 : Value} {w : World} {R : VW} (h : Fimpl_start t0 w R) : clT PR 155 [t0] w R := cl_of_tr (H := Fimpl_start.H) ctxOk Tryz.func155 rfl (by rw [Fimpl_start.eq]; exact h)
end Go.PT
