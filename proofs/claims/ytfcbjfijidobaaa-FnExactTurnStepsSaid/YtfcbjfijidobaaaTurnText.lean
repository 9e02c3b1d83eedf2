/- The reflected texts of functions of the program, and that a call keeps what its text says. -/
import Derived.Test.YtfcbjfijidobaaaCtx
set_option linter.unusedVariables false
set_option maxRecDepth 100000
namespace Go.PT
open Go.Proofs
/-! function 3: laws_FnExactTurnSteps -/
def Flaws_FnExactTurnSteps (t0 : Value) (w : World) (R : VW) : Prop :=
  clT PR 5 [t0, (.int .i64 1048576)] w fun t9 w1 =>
  binT .lss t9 (.int .i64 0) fun t11 =>
  condT t11
  (R (.bool true) w1)
  (clT PR 7 [t0] w1 fun t13 w2 =>
  clT PR 6 [t13] w2 fun t14 w3 =>
  clT PR 7 [t0] w3 fun t16 w4 =>
  clT PR 8 [t16] w4 fun t18 w5 =>
  binT .neq t18 t14 fun t21 =>
  condT t21
  (R (.bool false) w5)
  (clT PR 7 [t0] w5 fun t24 w6 =>
  clT PR 9 [t16, t24] w6 fun t25 w7 =>
  notT t25 fun t26 =>
  condT t26
  (R (.bool false) w7)
  (R (.bool true) w7)))
def Flaws_FnExactTurnSteps.H : Hints := {}
theorem Flaws_FnExactTurnSteps.eq (t0 : Value) : trF PR CX Flaws_FnExactTurnSteps.H Try.f3 [t0] = Flaws_FnExactTurnSteps t0 := by kernel_rfl
theorem Flaws_FnExactTurnSteps.cl {t0 : Value} {w : World} {R : VW} (h : Flaws_FnExactTurnSteps t0 w R) : clT PR 3 [t0] w R := cl_of_tr (H := Flaws_FnExactTurnSteps.H) ctxOk Try.func3 rfl (by rw [Flaws_FnExactTurnSteps.eq]; exact h)

/-! function 4: laws_FnTurnSteps -/
def Flaws_FnTurnSteps (t0 t1 : Value) (w : World) (R : VW) : Prop :=
  lenT t0 fun t9 =>
  binT .gtr t9 (.int .i64 1048576) fun t10 =>
  condT t10
  (R (.bool true) w)
  (lenT t1 fun t13 =>
  binT .gtr t13 (.int .i64 1048576) fun t14 =>
  condT t14
  (R (.bool true) w)
  (clT PR 10 [t0] w fun t17 w1 =>
  clT PR 8 [t17] w1 fun t19 w2 =>
  lenT t1 fun t21 =>
  lenT t17 fun t23 =>
  binT .add t23 (.int .i64 1) fun t24 =>
  binT .rem t21 t24 fun t25 =>
  clT PR 6 [t17] (w2.drew) fun t28 w3 =>
  binT .eql t19 t28 fun t29 =>
  condT t29
  ((opT PR (Instr.sliceAt 25 t17 none (some t25) none) w3 fun t34 w4 =>
  (clT PR 8 [t34] w4 fun t35 w5 =>
  opT PR (Instr.sliceAt 25 t17 (some t25) none none) w5 fun t38 w6 =>
  clT PR 8 [t38] w6 fun t39 w7 =>
  binT .add t35 t39 fun t40 =>
  binT .eql t19 t40 fun t41 =>
  condT t41
  (binT .geq t19 (.int .i64 0) fun t45 =>
  R t45 w7)
  (R (.bool false) w7)) ∧
  (opT PR (Instr.sliceAt 25 t17 (some t25) none none) w4 fun t38 w8 =>
  clT PR 8 [t34] w8 fun t35 w9 =>
  clT PR 8 [t38] w9 fun t39 w10 =>
  binT .add t35 t39 fun t40 =>
  binT .eql t19 t40 fun t41 =>
  condT t41
  (binT .geq t19 (.int .i64 0) fun t45 =>
  R t45 w10)
  (R (.bool false) w10))) ∧
  (opT PR (Instr.sliceAt 25 t17 (some t25) none none) w3 fun t38 w11 =>
  opT PR (Instr.sliceAt 25 t17 none (some t25) none) w11 fun t34 w12 =>
  clT PR 8 [t34] w12 fun t35 w13 =>
  clT PR 8 [t38] w13 fun t39 w14 =>
  binT .add t35 t39 fun t40 =>
  binT .eql t19 t40 fun t41 =>
  condT t41
  (binT .geq t19 (.int .i64 0) fun t45 =>
  R t45 w14)
  (R (.bool false) w14)))
  (((R (.bool false) w3) ∧
  (R (.bool false) w3)) ∧
  (R (.bool false) w3))))
def Flaws_FnTurnSteps.H : Hints := {draw := fun i => match i with | 6 => { T := [0, 0, 2, 7, 15, 31, 31, 31, 223, 479, 31, 31, 3103, 8159, 16351, 32767, 65535, 131071, 262143, 524287, 1048575, 2097151] } | _ => {}}
theorem Flaws_FnTurnSteps.eq (t0 t1 : Value) : trF PR CX Flaws_FnTurnSteps.H Try.f4 [t0, t1] = Flaws_FnTurnSteps t0 t1 := by kernel_rfl
theorem Flaws_FnTurnSteps.cl {t0 t1 : Value} {w : World} {R : VW} (h : Flaws_FnTurnSteps t0 t1 w R) : clT PR 4 [t0, t1] w R := cl_of_tr (H := Flaws_FnTurnSteps.H) ctxOk Try.func4 rfl (by rw [Flaws_FnTurnSteps.eq]; exact h)

/-! function 5: laws_szTurnS -/
def Flaws_szTurnS (t0 t1 : Value) (w : World) (R : VW) : Prop :=
  lenT t0 fun t7 =>
  binT .sub t1 t7 fun t8 =>
  binT .lss t8 (.int .i64 0) fun t10 =>
  condT t10
  (R (.int .i64 (-1)) w)
  (R t8 w)
def Flaws_szTurnS.H : Hints := {}
theorem Flaws_szTurnS.eq (t0 t1 : Value) : trF PR CX Flaws_szTurnS.H Try.f5 [t0, t1] = Flaws_szTurnS t0 t1 := by kernel_rfl
theorem Flaws_szTurnS.cl {t0 t1 : Value} {w : World} {R : VW} (h : Flaws_szTurnS t0 t1 w R) : clT PR 5 [t0, t1] w R := cl_of_tr (H := Flaws_szTurnS.H) ctxOk Try.func5 rfl (by rw [Flaws_szTurnS.eq]; exact h)

/-! function 6: spec_TurnSteps -/
def Fspec_TurnSteps.l1 (x0 x2 x3 x4 : Value) (w : World) (Kn Kb Kr : LW) : Prop := ∀ _ : Env,
  lenT x0 fun t7 =>
  binT .lss x4 t7 fun t8 =>
  condT t8
  (ixaT 2 x0 x4 fun t13 =>
  fadT 0 t13 fun t14 =>
  ldT t14 w fun t15 =>
  binT .eql t15 (.int .i64 1) fun t16 =>
  condT t16
  (ixaT 2 x0 x4 fun t20 =>
  fadT 1 t20 fun t21 =>
  ldT t21 w fun t22 =>
  clT PR 11 [t22, (.int .i64 0), (.int .i64 400)] w fun t23 w1 =>
  condT t23
  (ixaT 2 x0 x4 fun t28 =>
  fadT 1 t28 fun t29 =>
  ldT t29 w1 fun t30 =>
  binT .add x3 t30 fun t31 =>
  binT .add x4 (.int .i64 1) fun t10 =>
  Kn [x0, x2, t31, t10] w1)
  (binT .add x4 (.int .i64 1) fun t10 =>
  Kn [x0, x2, x3, t10] w1))
  (binT .add x4 (.int .i64 1) fun t10 =>
  Kn [x0, x2, x3, t10] w))
  (Kb [x0, x2, x3, x4] w)
def Fspec_TurnSteps.k2 (x0 x2 x3 x4 : Value) (w : World) (R : VW) : Prop := ∀ _ : Env,
  R x3 w
def Fspec_TurnSteps.r3 (x0 x2 x3 x4 : Value) (w : World) (R : VW) : Prop := ∀ _ : Env,
  R x2 w
def Fspec_TurnSteps (t0 : Value) (w : World) (R : VW) : Prop :=
  loopT (fun s w Kn Kb Kr => Fspec_TurnSteps.l1 (s.headD undef) (s.tail.headD undef) (s.tail.tail.headD undef) (s.tail.tail.tail.headD undef) w Kn Kb Kr) [t0, (.int .i64 0), (.int .i64 0), (.int .i64 0)] w
  (fun s w => Fspec_TurnSteps.k2 (s.headD undef) (s.tail.headD undef) (s.tail.tail.headD undef) (s.tail.tail.tail.headD undef) w R)
  (fun s w => Fspec_TurnSteps.r3 (s.headD undef) (s.tail.headD undef) (s.tail.tail.headD undef) (s.tail.tail.tail.headD undef) w R)
def Fspec_TurnSteps.H : Hints := {loop := fun i => match i with | 3 => some (0, [0, 2, 3, 4]) | _ => none}
theorem Fspec_TurnSteps.eq (t0 : Value) : trF PR CX Fspec_TurnSteps.H Try.f6 [t0] = Fspec_TurnSteps t0 := by kernel_rfl
theorem Fspec_TurnSteps.cl {t0 : Value} {w : World} {R : VW} (h : Fspec_TurnSteps t0 w R) : clT PR 6 [t0] w R := cl_of_tr (H := Fspec_TurnSteps.H) ctxOk Try.func6 rfl (by rw [Fspec_TurnSteps.eq]; exact h)

/-! function 7: laws_toTurnS -/
def Flaws_toTurnS.l1 (x0 x2 x3 x4 : Value) (w : World) (Kn Kb Kr : LW) : Prop := ∀ _ : Env,
  lenT x0 fun t10 =>
  binT .lss x4 t10 fun t11 =>
  condT t11
  (ixaT 2 x0 x4 fun t18 =>
  ldsT 2 t18 w fun t19 =>
  clT PR 12 [t19] w fun t20 w2 =>
  ixaT 2 x3 x4 fun t21 =>
  stsT 2 t21 t20 w2 fun w3 =>
  binT .add x4 (.int .i64 1) fun t13 =>
  Kn [x0, x2, x3, t13] w3)
  (Kb [x0, x2, x3, x4] w)
def Flaws_toTurnS.k2 (x0 x2 x3 x4 : Value) (w : World) (R : VW) : Prop := ∀ _ : Env,
  R x3 w
def Flaws_toTurnS.r3 (x0 x2 x3 x4 : Value) (w : World) (R : VW) : Prop := ∀ _ : Env,
  R x2 w
def Flaws_toTurnS (t0 : Value) (w : World) (R : VW) : Prop :=
  lenT t0 fun t6 =>
  opT PR (Instr.makeSlice 25 t6 t6) w fun t7 w1 =>
  loopT (fun s w Kn Kb Kr => Flaws_toTurnS.l1 (s.headD undef) (s.tail.headD undef) (s.tail.tail.headD undef) (s.tail.tail.tail.headD undef) w Kn Kb Kr) [t0, (.slice none 0 0), t7, (.int .i64 0)] w1
  (fun s w => Flaws_toTurnS.k2 (s.headD undef) (s.tail.headD undef) (s.tail.tail.headD undef) (s.tail.tail.tail.headD undef) w R)
  (fun s w => Flaws_toTurnS.r3 (s.headD undef) (s.tail.headD undef) (s.tail.tail.headD undef) (s.tail.tail.tail.headD undef) w R)
def Flaws_toTurnS.H : Hints := {loop := fun i => match i with | 3 => some (0, [0, 2, 3, 4]) | _ => none}
theorem Flaws_toTurnS.eq (t0 : Value) : trF PR CX Flaws_toTurnS.H Try.f7 [t0] = Flaws_toTurnS t0 := by kernel_rfl
theorem Flaws_toTurnS.cl {t0 : Value} {w : World} {R : VW} (h : Flaws_toTurnS t0 w R) : clT PR 7 [t0] w R := cl_of_tr (H := Flaws_toTurnS.H) ctxOk Try.func7 rfl (by rw [Flaws_toTurnS.eq]; exact h)

/-! function 8: impl_TurnSteps -/
def Fimpl_TurnSteps.l1 (x2 x3 x6 x7 x8 : Value) (w : World) (Kn Kb Kr : LW) : Prop := ∀ _ : Env,
  binT .lss x8 x7 fun t9 =>
  condT t9
  (ixaT 2 x6 x8 fun t10 =>
  ldsT 2 t10 w fun t11 =>
  allocT 33 #[(.int .i64 0), (.int .i64 0)] w fun t5 w1 =>
  stsT 2 t5 t11 w1 fun w2 =>
  fadT 0 t5 fun t12 =>
  ldT t12 w2 fun t13 =>
  binT .eql t13 (.int .i64 1) fun t14 =>
  condT t14
  (fadT 1 t5 fun t16 =>
  ldT t16 w2 fun t17 =>
  clT PR 13 [t17, (.int .i64 0), (.int .i64 400)] w2 fun t18 w3 =>
  condT t18
  (fadT 1 t5 fun t21 =>
  ldT t21 w3 fun t22 =>
  binT .add x3 t22 fun t23 =>
  binT .add x8 (.int .i64 1) fun t24 =>
  Kn [x2, t23, x6, x7, t24] w3)
  (binT .add x8 (.int .i64 1) fun t24 =>
  Kn [x2, x3, x6, x7, t24] w3))
  (binT .add x8 (.int .i64 1) fun t24 =>
  Kn [x2, x3, x6, x7, t24] w2))
  (Kb [x2, x3, x6, x7, x8] w)
def Fimpl_TurnSteps.k2 (x2 x3 x6 x7 x8 : Value) (w : World) (R : VW) : Prop := ∀ _ : Env,
  R x3 w
def Fimpl_TurnSteps.r3 (x2 x3 x6 x7 x8 : Value) (w : World) (R : VW) : Prop := ∀ _ : Env,
  R x2 w
def Fimpl_TurnSteps (t0 : Value) (w : World) (R : VW) : Prop :=
  lenT t0 fun t7 =>
  loopT (fun s w Kn Kb Kr => Fimpl_TurnSteps.l1 (s.headD undef) (s.tail.headD undef) (s.tail.tail.headD undef) (s.tail.tail.tail.headD undef) (s.tail.tail.tail.tail.headD undef) w Kn Kb Kr) [(.int .i64 0), (.int .i64 0), t0, t7, (.int .i64 0)] w
  (fun s w => Fimpl_TurnSteps.k2 (s.headD undef) (s.tail.headD undef) (s.tail.tail.headD undef) (s.tail.tail.tail.headD undef) (s.tail.tail.tail.tail.headD undef) w R)
  (fun s w => Fimpl_TurnSteps.r3 (s.headD undef) (s.tail.headD undef) (s.tail.tail.headD undef) (s.tail.tail.tail.headD undef) (s.tail.tail.tail.tail.headD undef) w R)
def Fimpl_TurnSteps.H : Hints := {loop := fun i => match i with | 3 => some (0, [2, 3, 6, 7, 8]) | _ => none}
theorem Fimpl_TurnSteps.eq (t0 : Value) : trF PR CX Fimpl_TurnSteps.H Try.f8 [t0] = Fimpl_TurnSteps t0 := by kernel_rfl
theorem Fimpl_TurnSteps.cl {t0 : Value} {w : World} {R : VW} (h : Fimpl_TurnSteps t0 w R) : clT PR 8 [t0] w R := cl_of_tr (H := Fimpl_TurnSteps.H) ctxOk Try.func8 rfl (by rw [Fimpl_TurnSteps.eq]; exact h)

/-! function 9: laws_eqTurnS -/
def Flaws_eqTurnS.l1 (x0 x1 x4 x5 : Value) (w : World) (Kn Kb Kr : LW) : Prop := ∀ _ : Env,
  lenT x0 fun t13 =>
  binT .lss x5 t13 fun t14 =>
  condT t14
  (ixaT 2 x0 x5 fun t19 =>
  ldsT 2 t19 (w.drew) fun t20 =>
  ixaT 2 x1 x5 fun t23 =>
  ldsT 2 t23 (w.drew) fun t24 =>
  clT PR 14 [t20, t24] (w.drew) fun t25 w1 =>
  notT t25 fun t26 =>
  condT t26
  (Kr [x0, x1, (.bool false), x5] w1)
  (binT .add x5 (.int .i64 1) fun t16 =>
  Kn [x0, x1, x4, t16] w1))
  (Kb [x0, x1, x4, x5] w)
def Flaws_eqTurnS.k2 (x0 x1 x4 x5 : Value) (w : World) (R : VW) : Prop := ∀ _ : Env,
  R (.bool true) w
def Flaws_eqTurnS.r3 (x0 x1 x4 x5 : Value) (w : World) (R : VW) : Prop := ∀ _ : Env,
  R x4 w
def Flaws_eqTurnS (t0 t1 : Value) (w : World) (R : VW) : Prop :=
  lenT t0 fun t7 =>
  lenT t1 fun t9 =>
  binT .neq t7 t9 fun t10 =>
  condT t10
  (R (.bool false) w)
  (loopT (fun s w Kn Kb Kr => Flaws_eqTurnS.l1 (s.headD undef) (s.tail.headD undef) (s.tail.tail.headD undef) (s.tail.tail.tail.headD undef) w Kn Kb Kr) [t0, t1, (.bool false), (.int .i64 0)] w
  (fun s w => Flaws_eqTurnS.k2 (s.headD undef) (s.tail.headD undef) (s.tail.tail.headD undef) (s.tail.tail.tail.headD undef) w R)
  (fun s w => Flaws_eqTurnS.r3 (s.headD undef) (s.tail.headD undef) (s.tail.tail.headD undef) (s.tail.tail.tail.headD undef) w R))
def Flaws_eqTurnS.H : Hints := {draw := fun i => match i with | 6 => { T := [0, 0, 3, 7, 0, 0, 48, 112, 255, 511] } | _ => {}, loop := fun i => match i with | 4 => some (0, [0, 1, 4, 5]) | _ => none}
theorem Flaws_eqTurnS.eq (t0 t1 : Value) : trF PR CX Flaws_eqTurnS.H Try.f9 [t0, t1] = Flaws_eqTurnS t0 t1 := by kernel_rfl
theorem Flaws_eqTurnS.cl {t0 t1 : Value} {w : World} {R : VW} (h : Flaws_eqTurnS t0 t1 w R) : clT PR 9 [t0, t1] w R := cl_of_tr (H := Flaws_eqTurnS.H) ctxOk Try.func9 rfl (by rw [Flaws_eqTurnS.eq]; exact h)

/-! function 10: spec_DrawTurnSteps -/
def Fspec_DrawTurnSteps (t0 : Value) (w : World) (R : VW) : Prop :=
  clT PR 15 [t0] w fun t6 w1 =>
  clT PR 16 [t6, (.int .i64 8)] w1 fun t8 w2 =>
  clT PR 17 [t6, (.int .i64 3)] w2 fun t10 w3 =>
  binT .eql t10 (.int .i64 0) fun t11 =>
  condT t11
  (clT PR 17 [t6, (.int .i64 5)] w3 fun t14 w4 =>
  bslT 3 3 1 #[(.int .i64 0)] [(0, 1, (.int .i64 (-1))), (1, 1, (.int .i64 401)), (2, 1, (.int .i64 7))] w4 fun t15 w5 =>
  clT PR 17 [t6, (.int .i64 3)] w5 fun t17 w6 =>
  ixaT 1 t15 t17 fun t18 =>
  ldT t18 w6 fun t19 =>
  bldT #[(.int .i64 0), (.int .i64 0)] [(0, 1, t14), (1, 1, t19)] fun t20 =>
  bslT 33 1 2 #[(.int .i64 0), (.int .i64 0)] [(0, 2, t20)] w6 fun t21 w7 =>
  opT PR (Builtin.append_ #[25, 25] 25 #[t8, t21]) w7 fun t22 w8 =>
  R t22 w8)
  (R t8 w3)
def Fspec_DrawTurnSteps.H : Hints := {}
theorem Fspec_DrawTurnSteps.eq (t0 : Value) : trF PR CX Fspec_DrawTurnSteps.H Try.f10 [t0] = Fspec_DrawTurnSteps t0 := by kernel_rfl
theorem Fspec_DrawTurnSteps.cl {t0 : Value} {w : World} {R : VW} (h : Fspec_DrawTurnSteps t0 w R) : clT PR 10 [t0] w R := cl_of_tr (H := Fspec_DrawTurnSteps.H) ctxOk Try.func10 rfl (by rw [Fspec_DrawTurnSteps.eq]; exact h)

/-! function 11: spec_l6In -/
def Fspec_l6In (t0 t1 t2 : Value) (w : World) (R : VW) : Prop :=
  binT .geq t0 t1 fun t9 =>
  condT t9
  (binT .leq t0 t2 fun t13 =>
  R t13 w)
  (R (.bool false) w)
def Fspec_l6In.H : Hints := {}
theorem Fspec_l6In.eq (t0 t1 t2 : Value) : trF PR CX Fspec_l6In.H Try.f11 [t0, t1, t2] = Fspec_l6In t0 t1 t2 := by kernel_rfl
theorem Fspec_l6In.cl {t0 t1 t2 : Value} {w : World} {R : VW} (h : Fspec_l6In t0 t1 t2 w R) : clT PR 11 [t0, t1, t2] w R := cl_of_tr (H := Fspec_l6In.H) ctxOk Try.func11 rfl (by rw [Fspec_l6In.eq]; exact h)

/-! function 12: laws_toTurn -/
def Flaws_toTurn (t0 : Value) (w : World) (R : VW) : Prop :=
  boxT 36 t0 w fun t1 w1 =>
  allocT 33 #[(.int .i64 0), (.int .i64 0)] w1 fun t2 w2 =>
  allocT 33 #[(.int .i64 0), (.int .i64 0)] w2 fun t3 w3 =>
  fadT 0 t1 fun t4 =>
  ldT t4 w3 fun t5 =>
  fadT 0 t3 fun t6 =>
  stT t6 t5 w3 fun w4 =>
  fadT 1 t1 fun t7 =>
  ldT t7 w4 fun t8 =>
  fadT 1 t3 fun t9 =>
  stT t9 t8 w4 fun w5 =>
  ldsT 2 t3 w5 fun t10 =>
  stsT 2 t2 t10 w5 fun w6 =>
  ldsT 2 t2 w6 fun r7 =>
  R r7 w6
def Flaws_toTurn.H : Hints := {}
theorem Flaws_toTurn.eq (t0 : Value) : trF PR CX Flaws_toTurn.H Try.f12 [t0] = Flaws_toTurn t0 := by kernel_rfl
theorem Flaws_toTurn.cl {t0 : Value} {w : World} {R : VW} (h : Flaws_toTurn t0 w R) : clT PR 12 [t0] w R := cl_of_tr (H := Flaws_toTurn.H) ctxOk Try.func12 rfl (by rw [Flaws_toTurn.eq]; exact h)

/-! function 13: impl_in -/
def Fimpl_in (t0 t1 t2 : Value) (w : World) (R : VW) : Prop :=
  binT .geq t0 t1 fun t9 =>
  condT t9
  (binT .leq t0 t2 fun t13 =>
  R t13 w)
  (R (.bool false) w)
def Fimpl_in.H : Hints := {}
theorem Fimpl_in.eq (t0 t1 t2 : Value) : trF PR CX Fimpl_in.H Try.f13 [t0, t1, t2] = Fimpl_in t0 t1 t2 := by kernel_rfl
theorem Fimpl_in.cl {t0 t1 t2 : Value} {w : World} {R : VW} (h : Fimpl_in t0 t1 t2 w R) : clT PR 13 [t0, t1, t2] w R := cl_of_tr (H := Fimpl_in.H) ctxOk Try.func13 rfl (by rw [Fimpl_in.eq]; exact h)

/-! function 14: laws_eqTurn -/
def Flaws_eqTurn (t0 t1 : Value) (w : World) (R : VW) : Prop :=
  boxT 33 t0 w fun t2 w1 =>
  boxT 33 t1 w1 fun t3 w2 =>
  fadT 0 t2 fun t5 =>
  ldT t5 w2 fun t6 =>
  fadT 0 t3 fun t7 =>
  ldT t7 w2 fun t8 =>
  binT .neq t6 t8 fun t9 =>
  condT t9
  (R (.bool false) w2)
  (fadT 1 t2 fun t10 =>
  ldT t10 w2 fun t11 =>
  fadT 1 t3 fun t12 =>
  ldT t12 w2 fun t13 =>
  binT .neq t11 t13 fun t14 =>
  condT t14
  (R (.bool false) w2)
  (R (.bool true) w2))
def Flaws_eqTurn.H : Hints := {}
theorem Flaws_eqTurn.eq (t0 t1 : Value) : trF PR CX Flaws_eqTurn.H Try.f14 [t0, t1] = Flaws_eqTurn t0 t1 := by kernel_rfl
theorem Flaws_eqTurn.cl {t0 t1 : Value} {w : World} {R : VW} (h : Flaws_eqTurn t0 t1 w R) : clT PR 14 [t0, t1] w R := cl_of_tr (H := Flaws_eqTurn.H) ctxOk Try.func14 rfl (by rw [Flaws_eqTurn.eq]; exact h)

/-! function 15: spec_l6Open -/
def Fspec_l6Open (t0 : Value) (w : World) (R : VW) : Prop :=
  lenT t0 fun t4 =>
  binT .gtr t4 (.int .i64 2000) fun t5 =>
  condT t5
  (opT PR (Instr.sliceAt 29 t0 none (some (.int .i64 2000)) none) w fun t7 w1 =>
  bldT #[(.slice none 0 0), (.int .i64 0)] [(0, 1, t7)] fun t9 =>
  boxT 44 t9 w1 fun t10 w2 =>
  R t10 w2)
  (bldT #[(.slice none 0 0), (.int .i64 0)] [(0, 1, t0)] fun t9 =>
  boxT 44 t9 w fun t10 w3 =>
  R t10 w3)
def Fspec_l6Open.H : Hints := {}
theorem Fspec_l6Open.eq (t0 : Value) : trF PR CX Fspec_l6Open.H Try.f15 [t0] = Fspec_l6Open t0 := by kernel_rfl
theorem Fspec_l6Open.cl {t0 : Value} {w : World} {R : VW} (h : Fspec_l6Open t0 w R) : clT PR 15 [t0] w R := cl_of_tr (H := Fspec_l6Open.H) ctxOk Try.func15 rfl (by rw [Fspec_l6Open.eq]; exact h)

/-! function 16: spec_l71Turns -/
def Fspec_l71Turns.j1 (x0 x4 x5 x6 x7 : Value) (w : World) (Kn Kb Kr : LW) : Prop := ∀ _ : Env,
  ldsT 2 x7 w fun t42 =>
  bslT 33 1 2 #[(.int .i64 0), (.int .i64 0)] [(0, 2, t42)] w fun t43 w10 =>
  opT PR (Builtin.append_ #[25, 25] 25 #[x5, t43]) w10 fun t44 w11 =>
  binT .sub x6 (.int .i64 1) fun t16 =>
  Kn [x0, x4, t44, t16] w11
def Fspec_l71Turns.j2 (x0 x4 x5 x6 x7 : Value) (w : World) (Kn Kb Kr : LW) : Prop := ∀ _ : Env,
  Fspec_l71Turns.j1 x0 x4 x5 x6 x7 w Kn Kb Kr
def Fspec_l71Turns.l1 (x0 x4 x5 x6 : Value) (w : World) (Kn Kb Kr : LW) : Prop := ∀ _ : Env,
  binT .gtr x6 (.int .i64 0) fun t14 =>
  condT t14
  (clT PR 17 [x0, (.int .i64 30)] w fun t18 w3 =>
  bldT #[(.int .i64 0), (.int .i64 0)] [(0, 1, (.int .i64 1)), (1, 1, t18)] fun t19 =>
  allocT 33 #[(.int .i64 0), (.int .i64 0)] w3 fun t7 w4 =>
  stsT 2 t7 t19 w4 fun w5 =>
  clT PR 17 [x0, (.int .i64 5)] w5 fun t21 w6 =>
  binT .eql t21 (.int .i64 0) fun t23 =>
  condT t23
  (clT PR 17 [x0, (.int .i64 5)] w6 fun t25 w7 =>
  clT PR 17 [x0, (.int .i64 12)] w7 fun t27 w8 =>
  binT .quo t27 (.int .i64 11) fun t28 =>
  binT .sub t25 t28 fun t29 =>
  bldT #[(.int .i64 0), (.int .i64 0)] [(0, 1, (.int .i64 2)), (1, 1, t29)] fun t30 =>
  stsT 2 t7 t30 w8 fun w9 =>
  Fspec_l71Turns.j1 x0 x4 x5 x6 t7 w9 Kn Kb Kr)
  (binT .eql t21 (.int .i64 1) fun t32 =>
  condT t32
  (clT PR 17 [x0, (.int .i64 4)] w6 fun t34 w12 =>
  binT .add (.int .i64 1) t34 fun t35 =>
  clT PR 17 [x0, (.int .i64 12)] w12 fun t37 w13 =>
  binT .quo t37 (.int .i64 11) fun t38 =>
  binT .sub t35 t38 fun t39 =>
  bldT #[(.int .i64 0), (.int .i64 0)] [(0, 1, (.int .i64 3)), (1, 1, t39)] fun t40 =>
  stsT 2 t7 t40 w13 fun w14 =>
  Fspec_l71Turns.j2 x0 x4 x5 x6 t7 w14 Kn Kb Kr)
  (Fspec_l71Turns.j2 x0 x4 x5 x6 t7 w6 Kn Kb Kr)))
  (Kb [x0, x4, x5, x6] w)
def Fspec_l71Turns.k2 (x0 x4 x5 x6 : Value) (w : World) (R : VW) : Prop := ∀ _ : Env,
  R x5 w
def Fspec_l71Turns.r3 (x0 x4 x5 x6 : Value) (w : World) (R : VW) : Prop := ∀ _ : Env,
  R x4 w
def Fspec_l71Turns (t0 t1 : Value) (w : World) (R : VW) : Prop :=
  bslT 33 0 2 #[] [] w fun t8 w1 =>
  clT PR 17 [t0, t1] w1 fun t11 w2 =>
  binT .add (.int .i64 1) t11 fun t12 =>
  loopT (fun s w Kn Kb Kr => Fspec_l71Turns.l1 (s.headD undef) (s.tail.headD undef) (s.tail.tail.headD undef) (s.tail.tail.tail.headD undef) w Kn Kb Kr) [t0, (.slice none 0 0), t8, t12] w2
  (fun s w => Fspec_l71Turns.k2 (s.headD undef) (s.tail.headD undef) (s.tail.tail.headD undef) (s.tail.tail.tail.headD undef) w R)
  (fun s w => Fspec_l71Turns.r3 (s.headD undef) (s.tail.headD undef) (s.tail.tail.headD undef) (s.tail.tail.tail.headD undef) w R)
def Fspec_l71Turns.H : Hints := {loop := fun i => match i with | 3 => some (0, [0, 4, 5, 6]) | _ => none, join := fun i => match i with | 22 => some [0, 4, 5, 6, 7] | 31 => some [0, 4, 5, 6, 7] | _ => none}
theorem Fspec_l71Turns.eq (t0 t1 : Value) : trF PR CX Fspec_l71Turns.H Try.f16 [t0, t1] = Fspec_l71Turns t0 t1 := by kernel_rfl
theorem Fspec_l71Turns.cl {t0 t1 : Value} {w : World} {R : VW} (h : Fspec_l71Turns t0 t1 w R) : clT PR 16 [t0, t1] w R := cl_of_tr (H := Fspec_l71Turns.H) ctxOk Try.func16 rfl (by rw [Fspec_l71Turns.eq]; exact h)

/-! function 17: spec_l6Rd_pick -/
def Fspec_l6Rd_pick (t0 t1 : Value) (w : World) (R : VW) : Prop :=
  nilT t0 fun t9 =>
  fadT 1 t9 fun t10 =>
  ldT t10 w fun t11 =>
  binT .add t11 (.int .i64 1) fun t12 =>
  nilT t0 fun t13 =>
  fadT 1 t13 fun t14 =>
  stT t14 t12 w fun w1 =>
  binT .lss t1 (.int .i64 1) fun t16 =>
  condT t16
  (R (.int .i64 0) w1)
  (nilT t0 fun t19 =>
  fadT 0 t19 fun t20 =>
  ldT t20 w1 fun t21 =>
  lenT t21 fun t22 =>
  binT .eql t22 (.int .i64 0) fun t23 =>
  condT t23
  (R (.int .i64 0) w1)
  (nilT t0 fun t26 =>
  fadT 1 t26 fun t27 =>
  ldT t27 w1 fun t28 =>
  binT .sub t28 (.int .i64 1) fun t29 =>
  nilT t0 fun t32 =>
  fadT 0 t32 fun t33 =>
  ldT t33 w1 fun t34 =>
  lenT t34 fun t35 =>
  binT .lss t29 t35 fun t36 =>
  condT t36
  (nilT t0 fun t38 =>
  fadT 0 t38 fun t39 =>
  ldT t39 w1 fun t40 =>
  ixaT 1 t40 t29 fun t42 =>
  ldT t42 w1 fun t43 =>
  cviT .i64 t43 fun t44 =>
  binT .rem t44 t1 fun t46 =>
  R t46 w1)
  (nilT t0 fun t48 =>
  fadT 0 t48 fun t49 =>
  ldT t49 (w1.drew) fun t50 =>
  nilT t0 fun t53 =>
  fadT 0 t53 fun t54 =>
  ldT t54 (w1.drew) fun t55 =>
  lenT t55 fun t56 =>
  binT .rem t29 t56 fun t57 =>
  ixaT 1 t50 t57 fun t58 =>
  ldT t58 (w1.drew) fun t59 =>
  cviT .i64 t59 fun t60 =>
  binT .mul t60 (.int .i64 131) fun t61 =>
  nilT t0 fun t63 =>
  fadT 0 t63 fun t64 =>
  ldT t64 (w1.drew) fun t65 =>
  binT .mul t29 (.int .i64 7) fun t67 =>
  binT .add t67 (.int .i64 3) fun t68 =>
  nilT t0 fun t70 =>
  fadT 0 t70 fun t71 =>
  ldT t71 (w1.drew) fun t72 =>
  lenT t72 fun t73 =>
  binT .rem t68 t73 fun t74 =>
  ixaT 1 t65 t74 fun t75 =>
  ldT t75 (w1.drew) fun t76 =>
  cviT .i64 t76 fun t77 =>
  binT .mul t77 (.int .i64 1117) fun t78 =>
  binT .add t61 t78 fun t79 =>
  binT .mul t29 (.int .i64 29) fun t81 =>
  binT .add t79 t81 fun t82 =>
  nilT t0 fun t85 =>
  fadT 0 t85 fun t86 =>
  ldT t86 (w1.drew) fun t87 =>
  lenT t87 fun t88 =>
  binT .quo t29 t88 fun t89 =>
  binT .mul t89 (.int .i64 53) fun t90 =>
  binT .add t82 t90 fun t91 =>
  binT .quo t91 (.int .i64 64) fun t94 =>
  binT .xor t91 t94 fun t95 =>
  binT .rem t95 t1 fun t98 =>
  R t98 (w1.drew))))
def Fspec_l6Rd_pick.H : Hints := {draw := fun i => match i with | 7 => { T := [0, 1, 3, 7, 0, 0, 32, 96, 224, 480, 1008, 2047, 4095, 8191, 16383, 0, 32768, 98304, 229376, 0, 524288, 1572864, 0, 4194304, 12582912, 29360128, 62914560, 133693440, 268402688, 536838144, 1073709056, 2147450880, 4294967295, 0, 8589934592, 34359738367, 0, 0, 137438953472, 412316860416, 962072674304, 2061584302080, 4329327034368, 8727373545472, 17592186044415, 35184372088831] } | _ => {}}
theorem Fspec_l6Rd_pick.eq (t0 t1 : Value) : trF PR CX Fspec_l6Rd_pick.H Try.f17 [t0, t1] = Fspec_l6Rd_pick t0 t1 := by kernel_rfl
theorem Fspec_l6Rd_pick.cl {t0 t1 : Value} {w : World} {R : VW} (h : Fspec_l6Rd_pick t0 t1 w R) : clT PR 17 [t0, t1] w R := cl_of_tr (H := Fspec_l6Rd_pick.H) ctxOk Try.func17 rfl (by rw [Fspec_l6Rd_pick.eq]; exact h)
end Go.PT
