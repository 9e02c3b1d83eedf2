/- What the claim of FnMoveBack leans on, part 14 of 16. -/
import Derived.Laws.CopyRow
import Derived.Test.YthdpnpckmoffaaaGreatMoveBack00
import Derived.Test.YthdpnpckmoffaaaGreatMoveBack01
import Derived.Test.YthdpnpckmoffaaaGreatMoveBack02
import Derived.Test.YthdpnpckmoffaaaGreatMoveBack03
import Derived.Test.YthdpnpckmoffaaaGreatMoveBack04
import Derived.Test.YthdpnpckmoffaaaGreatMoveBack05
import Derived.Test.YthdpnpckmoffaaaGreatMoveBack06
import Derived.Test.YthdpnpckmoffaaaGreatMoveBack07
import Derived.Test.YthdpnpckmoffaaaGreatMoveBack08
import Derived.Test.YthdpnpckmoffaaaGreatMoveBack09
import Derived.Test.YthdpnpckmoffaaaGreatMoveBack10
import Derived.Test.YthdpnpckmoffaaaGreatMoveBack11
import Derived.Test.YthdpnpckmoffaaaGreatMoveBack12
set_option linter.unusedVariables false
set_option linter.unusedSimpArgs false
set_option linter.unusedSectionVars false
set_option maxRecDepth 100000
namespace Go.PT
open Go.Proofs
def Fimpl_MoveIn.l1 (x5 x8 x9 x10 x39 x40 x41 : Value) (w : World) (Kn Kb Kr : LW) : Prop := ∀ _ : Env,
  binT .lss x41 x40 fun t42 =>
  condT t42
  (ixaT 6 x39 x41 fun t43 =>
  ldsT 6 t43 w fun t44 =>
  allocT 89 #[(.int .i64 0), (.int .i64 0), (.slice none 0 0), (.slice none 0 0), (.int .i64 0), (.bool false)] w fun t12 w18 =>
  stsT 6 t12 t44 w18 fun w19 =>
  fadT 4 x10 fun t45 =>
  ldT t45 (w19.drew) fun t46 =>
  ldsT 6 t12 (w19.drew) fun t47 =>
  clT PR 99 [t47] (w19.drew) fun t48 w20 =>
  (ldT t45 w20 fun u => u = t46) ∧
  bldT #[(.int .i64 0), (.int .i64 0), (.int .i64 0), (.int .i64 0), (.slice none 0 0), (.slice none 0 0), (.int .i64 0), (.bool false)] [(0, 1, (.int .i64 (-1))), (2, 6, t48)] fun t49 =>
  bslT 91 1 8 #[(.int .i64 0), (.int .i64 0), (.int .i64 0), (.int .i64 0), (.slice none 0 0), (.slice none 0 0), (.int .i64 0), (.bool false)] [(0, 8, t49)] w20 fun t50 w21 =>
  (ldT t45 w21 fun u => u = t46) ∧
  opT PR (Builtin.append_ #[34, 34] 34 #[t46, t50]) w21 fun t51 w22 =>
  fadT 4 x10 fun t52 =>
  stT t52 t51 w22 fun w23 =>
  binT .add x41 (.int .i64 1) fun t53 =>
  Kn [x5, x8, x9, x10, x39, x40, t53] w23)
  (Kb [x5, x8, x9, x10, x39, x40, x41] w)
def Fimpl_MoveIn.k2 (x5 x8 x9 x10 x39 x40 x41 : Value) (w : World) (R : VW) : Prop := ∀ _ : Env,
  fadT 1 x5 fun t54 =>
  ldT t54 w fun t55 =>
  binT .geq t55 (.int .i64 0) fun t56 =>
  condT t56
  (fadT 1 x5 fun t57 =>
  ldT t57 w fun t58 =>
  clT PR 100 [x10, t58, (.int .i64 0)] w fun t59 w24 =>
  fadT 3 x10 fun t60 =>
  stT t60 (.int .i64 0) w24 fun w25 =>
  ldsT 8 x10 w25 fun t61 =>
  stsT 8 x8 t61 w25 fun w26 =>
  ldsT 8 x8 w26 fun r27 =>
  R (.tuple #[r27, (.bool true)]) w26)
  (ldsT 8 x10 w fun t61 =>
  stsT 8 x8 t61 w fun w28 =>
  ldsT 8 x8 w28 fun r29 =>
  R (.tuple #[r29, (.bool true)]) w28)
def Fimpl_MoveIn.r3 (x5 x8 x9 x10 x39 x40 x41 : Value) (w : World) (R : VW) : Prop := ∀ _ : Env,
  ldsT 8 x8 w fun r30 =>
  R (.tuple #[r30, x9]) w
def Fimpl_MoveIn (t0 t1 t2 t3 : Value) (w : World) (R : VW) : Prop :=
  boxT 42 t0 w fun t4 w1 =>
  boxT 57 t1 w1 fun t5 w2 =>
  allocT 37 #[(.int .i64 0), (.slice none 0 0), (.slice none 0 0), (.int .i64 0), (.slice none 0 0), (.int .i64 0), (.slice none 0 0), (.int .i64 0)] w2 fun t8 w3 =>
  ldsT 1 t4 w3 fun t13 =>
  ldsT 5 t5 w3 fun t14 =>
  clT PR 65 [t13, t14] w3 fun t15 w4 =>
  notT t15 fun t16 =>
  condT t16
  (bldT #[(.int .i64 0), (.slice none 0 0), (.slice none 0 0), (.int .i64 0), (.slice none 0 0), (.int .i64 0), (.slice none 0 0), (.int .i64 0)] [] fun t23 =>
  stsT 8 t8 t23 w4 fun w5 =>
  ldsT 8 t8 w5 fun r6 =>
  R (.tuple #[r6, (.bool false)]) w5)
  (clT PR 96 [t2, t3] w4 fun t20 w7 =>
  notT t20 fun t21 =>
  condT t21
  (bldT #[(.int .i64 0), (.slice none 0 0), (.slice none 0 0), (.int .i64 0), (.slice none 0 0), (.int .i64 0), (.slice none 0 0), (.int .i64 0)] [] fun t23 =>
  stsT 8 t8 t23 w7 fun w8 =>
  ldsT 8 t8 w8 fun r9 =>
  R (.tuple #[r9, (.bool false)]) w8)
  (clT PR 97 [t2, t3] w7 fun t26 w10 =>
  allocT 37 #[(.int .i64 0), (.slice none 0 0), (.slice none 0 0), (.int .i64 0), (.slice none 0 0), (.int .i64 0), (.slice none 0 0), (.int .i64 0)] w10 fun t10 w11 =>
  stsT 8 t10 t26 w11 fun w12 =>
  fadT 2 t5 fun t27 =>
  ldT t27 (w12.drew) fun t28 =>
  fadT 3 t5 fun t29 =>
  ldT t29 (w12.drew) fun t30 =>
  fadT 4 t5 fun t32 =>
  ldT t32 (w12.drew) fun t33 =>
  clT PR 98 [t30] (w12.drew) fun t31 w13 =>
  (ldT t32 w13 fun u => u = t33) ∧
  (ldT t27 w13 fun u => u = t28) ∧
  fadT 5 t10 fun t34 =>
  stT t34 t28 w13 fun w14 =>
  (ldT t32 w14 fun u => u = t33) ∧
  fadT 6 t10 fun t35 =>
  stT t35 t31 w14 fun w15 =>
  (ldT t32 w15 fun u => u = t33) ∧
  fadT 7 t10 fun t36 =>
  stT t36 t33 w15 fun w16 =>
  fadT 3 t10 fun t37 =>
  stT t37 (.int .i64 (-1)) w16 fun w17 =>
  fadT 0 t5 fun t38 =>
  ldT t38 w17 fun t39 =>
  lenT t39 fun t40 =>
  loopT (fun s w Kn Kb Kr => Fimpl_MoveIn.l1 (s.headD undef) (s.tail.headD undef) (s.tail.tail.headD undef) (s.tail.tail.tail.headD undef) (s.tail.tail.tail.tail.headD undef) (s.tail.tail.tail.tail.tail.headD undef) (s.tail.tail.tail.tail.tail.tail.headD undef) w Kn Kb Kr) [t5, t8, (.bool false), t10, t39, t40, (.int .i64 0)] w17
  (fun s w => Fimpl_MoveIn.k2 (s.headD undef) (s.tail.headD undef) (s.tail.tail.headD undef) (s.tail.tail.tail.headD undef) (s.tail.tail.tail.tail.headD undef) (s.tail.tail.tail.tail.tail.headD undef) (s.tail.tail.tail.tail.tail.tail.headD undef) w R)
  (fun s w => Fimpl_MoveIn.r3 (s.headD undef) (s.tail.headD undef) (s.tail.tail.headD undef) (s.tail.tail.tail.headD undef) (s.tail.tail.tail.tail.headD undef) (s.tail.tail.tail.tail.tail.headD undef) (s.tail.tail.tail.tail.tail.tail.headD undef) w R)))
def Fimpl_MoveIn.H : Hints := {draw := fun i => match i with | 4 => { T := [0, 1, 0, 4, 12, 0, 32, 31, 159, 415, 927, 2047, 4095, 8191, 16383] } | 8 => { T := [0, 1, 0, 4, 12, 28, 63, 127, 255] } | _ => {}, loop := fun i => match i with | 6 => some (0, [5, 8, 9, 10, 39, 40, 41]) | _ => none}
theorem Fimpl_MoveIn.eq (t0 t1 t2 t3 : Value) : trF PR CX Fimpl_MoveIn.H Tryz.f32 [t0, t1, t2, t3] = Fimpl_MoveIn t0 t1 t2 t3 := by kernel_rfl
theorem Fimpl_MoveIn.cl {t0 t1 t2 t3 : Value} {w : World} {R : VW} (h : Fimpl_MoveIn t0 t1 t2 t3 w R) : clT PR 32 [t0, t1, t2, t3] w R := cl_of_tr (H := Fimpl_MoveIn.H) ctxOk Tryz.func32 rfl (by rw [Fimpl_MoveIn.eq]; exact h)
def Fimpl_MachOk (t0 t1 : Value) (w : World) (R : VW) : Prop :=
  boxT 42 t0 w fun t2 w1 =>
  boxT 37 t1 w1 fun t3 w2 =>
  ldsT 1 t2 w2 fun t5 =>
  clT PR 109 [t5] w2 fun t6 w3 =>
  notT t6 fun t7 =>
  condT t7
  (R (.bool false) w3)
  (fadT 1 t3 fun t9 =>
  ldT t9 w3 fun t10 =>
  lenT t10 fun t11 =>
  fadT 0 t3 fun t12 =>
  ldT t12 w3 fun t13 =>
  clT PR 96 [t11, t13] w3 fun t14 w4 =>
  notT t14 fun t15 =>
  condT t15
  (R (.bool false) w4)
  (ldsT 8 t3 w4 fun t18 =>
  clT PR 110 [t18] w4 fun t19 w5 =>
  notT t19 fun t20 =>
  condT t20
  (R (.bool false) w5)
  (ldsT 1 t2 w5 fun t23 =>
  fadT 5 t3 fun t24 =>
  ldT t24 w5 fun t25 =>
  fadT 6 t3 fun t26 =>
  ldT t26 w5 fun t27 =>
  fadT 7 t3 fun t28 =>
  ldT t28 w5 fun t29 =>
  fadT 3 t3 fun t30 =>
  ldT t30 w5 fun t31 =>
  binT .eql t31 (.int .i64 (-1)) fun t32 =>
  clT PR 111 [t23, t25, t27, t29, t32] w5 fun t33 w6 =>
  notT t33 fun t34 =>
  condT t34
  (R (.bool false) w6)
  (fadT 4 t3 fun t37 =>
  ldT t37 w6 fun t38 =>
  lenT t38 fun t39 =>
  fadT 5 t3 fun t40 =>
  ldT t40 w6 fun t41 =>
  binT .gtr t39 t41 fun t42 =>
  condT t42
  (R (.bool false) w6)
  (ldsT 8 t3 w6 fun t44 =>
  ldsT 1 t2 w6 fun t45 =>
  clT PR 112 [t44, t45] w6 fun t46 w7 =>
  condT t46
  (ldsT 8 t3 w7 fun t48 =>
  clT PR 113 [t48] w7 fun t49 w8 =>
  R t49 w8)
  (R (.bool false) w7))))))
def Fimpl_MachOk.H : Hints := {}
theorem Fimpl_MachOk.eq (t0 t1 : Value) : trF PR CX Fimpl_MachOk.H Tryz.f37 [t0, t1] = Fimpl_MachOk t0 t1 := by kernel_rfl
theorem Fimpl_MachOk.cl {t0 t1 : Value} {w : World} {R : VW} (h : Fimpl_MachOk t0 t1 w R) : clT PR 37 [t0, t1] w R := cl_of_tr (H := Fimpl_MachOk.H) ctxOk Tryz.func37 rfl (by rw [Fimpl_MachOk.eq]; exact h)
def Fimpl_MachView.j1 (x1 x2 x5 x6 x7 x8 : Value) (w : World) (Kn Kb Kr : LW) : Prop := ∀ _ : Env,
  fadT 2 x8 fun t69 =>
  ldT t69 w fun t70 =>
  clT PR 120 [x5, t70] w fun t71 w36 =>
  fadT 2 x8 fun t72 =>
  stT t72 t71 w36 fun w37 =>
  fadT 3 x8 fun t74 =>
  ldT t74 w37 fun t75 =>
  clT PR 120 [x5, t75] w37 fun t76 w38 =>
  fadT 3 x8 fun t77 =>
  stT t77 t76 w38 fun w39 =>
  ldsT 6 x8 w39 fun t79 =>
  bslT 89 1 6 #[(.int .i64 0), (.int .i64 0), (.slice none 0 0), (.slice none 0 0), (.int .i64 0), (.bool false)] [(0, 6, t79)] w39 fun t80 w40 =>
  opT PR (Builtin.append_ #[55, 55] 55 #[x6, t80]) w40 fun t81 w41 =>
  binT .add x7 (.int .i64 1) fun t40 =>
  Kn [x1, x2, x5, t81, t40] w41
def Fimpl_MachView.l1 (x1 x2 x5 x6 x7 : Value) (w : World) (Kn Kb Kr : LW) : Prop := ∀ _ : Env,
  nilT PR x5 fun t34 =>
  fadT 9 t34 fun t35 =>
  ldT t35 w fun t36 =>
  lenT t36 fun t37 =>
  binT .lss x7 t37 fun t38 =>
  condT t38
  (ldsT 8 x1 (w.drew) fun t41 =>
  nilT PR x5 fun t43 =>
  fadT 9 t43 fun t44 =>
  ldT t44 (w.drew) fun t45 =>
  ixaT 2 t45 x7 fun t47 =>
  ldsT 2 t47 (w.drew) fun t48 =>
  arT [(89, #[(.int .i64 0), (.int .i64 0), (.slice none 0 0), (.slice none 0 0), (.int .i64 0), (.bool false)])] (w.drew) [none] fun w10 s11 =>
  clT PR 118 [t41, t48] w10 fun t49 w12 =>
  arT [(89, #[(.int .i64 0), (.int .i64 0), (.slice none 0 0), (.slice none 0 0), (.int .i64 0), (.bool false)])] w12 s11 fun w13 s14 =>
  ndT s14 0 fun b15 =>
  stsT 6 (.pointer (some ⟨b15, 0, none⟩)) t49 w13 fun w16 =>
  arT [(89, #[(.int .i64 0), (.int .i64 0), (.slice none 0 0), (.slice none 0 0), (.int .i64 0), (.bool false)])] w16 s14 fun w17 s18 =>
  ndT s18 0 fun b19 =>
  ldsT 8 x1 (w17.drew) fun t51 =>
  nilT PR x5 fun t53 =>
  fadT 9 t53 fun t54 =>
  ldT t54 (w17.drew) fun t55 =>
  ixaT 2 t55 x7 fun t57 =>
  ldsT 2 t57 (w17.drew) fun t58 =>
  arT [(142, #[(.int .i64 0), (.int .i64 0)])] (w17.drew) [none] fun w20 s21 =>
  clT PR 119 [t51, t58] w20 fun t59 w22 =>
  extT t59 0 fun t60 =>
  extT t59 1 fun t61 =>
  arT [(142, #[(.int .i64 0), (.int .i64 0)])] w22 s21 fun w23 s24 =>
  ndT s24 0 fun b25 =>
  stsT 2 (.pointer (some ⟨b25, 0, none⟩)) t60 w23 fun w26 =>
  arT [(142, #[(.int .i64 0), (.int .i64 0)])] w26 s24 fun w27 s28 =>
  ndT s28 0 fun b29 =>
  arT [(142, #[(.int .i64 0), (.int .i64 0)])] w27 s28 fun w30 s31 =>
  ndT s31 0 fun b32 =>
  fadT 4 (.pointer (some ⟨b19, 0, none⟩)) fun t62 =>
  stT t62 (.int .i64 (-1)) w30 fun w33 =>
  condT t61
  (ldsT 2 (.pointer (some ⟨b32, 0, none⟩)) w33 fun t65 =>
  clT PR 116 [x5, t65] w33 fun t66 w34 =>
  fadT 4 (.pointer (some ⟨b19, 0, none⟩)) fun t67 =>
  stT t67 t66 w34 fun w35 =>
  Fimpl_MachView.j1 x1 x2 x5 x6 x7 (.pointer (some ⟨b19, 0, none⟩)) w35 Kn Kb Kr)
  (Fimpl_MachView.j1 x1 x2 x5 x6 x7 (.pointer (some ⟨b19, 0, none⟩)) w33 Kn Kb Kr))
  (Kb [x1, x2, x5, x6, x7] w)
def Fimpl_MachView.k2 (x1 x2 x5 x6 x7 : Value) (w : World) (R : VW) : Prop := ∀ _ : Env,
  R x6 w
def Fimpl_MachView.r3 (x1 x2 x5 x6 x7 : Value) (w : World) (R : VW) : Prop := ∀ _ : Env,
  R x2 w
def Fimpl_MachView (t0 : Value) (w : World) (R : VW) : Prop :=
  boxT 37 t0 w fun t1 w1 =>
  ldsT 8 t1 w1 fun t12 =>
  clT PR 114 [t12] w1 fun t13 w2 =>
  extT t13 0 fun t14 =>
  extT t13 1 fun t15 =>
  allocT 142 #[(.int .i64 0), (.int .i64 0)] w2 fun t3 w3 =>
  stsT 2 t3 t14 w3 fun w4 =>
  notT t15 fun t17 =>
  condT t17
  (R (.slice none 0 0) w4)
  (ldsT 8 t1 w4 fun t19 =>
  clT PR 115 [t19] w4 fun t20 w5 =>
  notT t20 fun t21 =>
  condT t21
  (R (.slice none 0 0) w5)
  (ldsT 8 t1 w5 fun t23 =>
  opT PR (Instr.makeMap 146 none) w5 fun t24 w6 =>
  bldT #[(.int .i64 0), (.slice none 0 0), (.slice none 0 0), (.int .i64 0), (.slice none 0 0), (.int .i64 0), (.slice none 0 0), (.int .i64 0), (.map none), (.slice none 0 0)] [(0, 8, t23), (8, 1, t24)] fun t25 =>
  boxT 149 t25 w6 fun t26 w7 =>
  ldsT 8 t1 w7 fun t28 =>
  ldsT 2 t3 w7 fun t29 =>
  clT PR 117 [t28, t29] w7 fun t30 w8 =>
  clT PR 116 [t26, t30] w8 fun t31 w9 =>
  loopT (fun s w Kn Kb Kr => Fimpl_MachView.l1 (s.headD undef) (s.tail.headD undef) (s.tail.tail.headD undef) (s.tail.tail.tail.headD undef) (s.tail.tail.tail.tail.headD undef) w Kn Kb Kr) [t1, (.slice none 0 0), t26, (.slice none 0 0), (.int .i64 0)] w9
  (fun s w => Fimpl_MachView.k2 (s.headD undef) (s.tail.headD undef) (s.tail.tail.headD undef) (s.tail.tail.tail.headD undef) (s.tail.tail.tail.tail.headD undef) w R)
  (fun s w => Fimpl_MachView.r3 (s.headD undef) (s.tail.headD undef) (s.tail.tail.headD undef) (s.tail.tail.tail.headD undef) (s.tail.tail.tail.tail.headD undef) w R)))
def Fimpl_MachView.H : Hints := {draw := fun i => match i with | 10 => { T := [0, 0, 2, 6, 14, 0, 62, 126, 255, 0, 1023], F := [9] } | 11 => { T := [0, 0, 2, 6, 14, 0, 62, 126, 255, 511, 1023, 1023, 0, 6143, 16383], F := [12] } | _ => {}, loop := fun i => match i with | 8 => some (0, [1, 2, 5, 6, 7]) | _ => none, join := fun i => match i with | 63 => some [1, 2, 5, 6, 7, 8] | _ => none}
theorem Fimpl_MachView.eq (t0 : Value) : trF PR CX Fimpl_MachView.H Tryz.f39 [t0] = Fimpl_MachView t0 := by kernel_rfl
theorem Fimpl_MachView.cl {t0 : Value} {w : World} {R : VW} (h : Fimpl_MachView t0 w R) : clT PR 39 [t0] w R := cl_of_tr (H := Fimpl_MachView.H) ctxOk Tryz.func39 rfl (by rw [Fimpl_MachView.eq]; exact h)
def Fimpl_MachFrames.l1 (x2 x3 x7 x8 x9 : Value) (w : World) (Kn Kb Kr : LW) : Prop := ∀ _ : Env,
  binT .lss x9 x8 fun t10 =>
  condT t10
  (ixaT 2 x7 x9 fun t11 =>
  ldsT 2 t11 w fun t12 =>
  allocT 116 #[(.int .i64 0), (.slice none 0 0)] w fun t5 w2 =>
  stsT 2 t5 t12 w2 fun w3 =>
  fadT 1 t5 fun t14 =>
  ldT t14 w3 fun t15 =>
  lenT t15 fun t16 =>
  binT .add x3 t16 fun t17 =>
  binT .add x9 (.int .i64 1) fun t18 =>
  Kn [x2, t17, x7, x8, t18] w3)
  (Kb [x2, x3, x7, x8, x9] w)
def Fimpl_MachFrames.k2 (x2 x3 x7 x8 x9 : Value) (w : World) (R : VW) : Prop := ∀ _ : Env,
  R x3 w
def Fimpl_MachFrames.r3 (x2 x3 x7 x8 x9 : Value) (w : World) (R : VW) : Prop := ∀ _ : Env,
  R x2 w
def Fimpl_MachFrames (t0 : Value) (w : World) (R : VW) : Prop :=
  boxT 37 t0 w fun t1 w1 =>
  fadT 1 t1 fun t6 =>
  ldT t6 w1 fun t7 =>
  lenT t7 fun t8 =>
  loopT (fun s w Kn Kb Kr => Fimpl_MachFrames.l1 (s.headD undef) (s.tail.headD undef) (s.tail.tail.headD undef) (s.tail.tail.tail.headD undef) (s.tail.tail.tail.tail.headD undef) w Kn Kb Kr) [(.int .i64 0), (.int .i64 0), t7, t8, (.int .i64 0)] w1
  (fun s w => Fimpl_MachFrames.k2 (s.headD undef) (s.tail.headD undef) (s.tail.tail.headD undef) (s.tail.tail.tail.headD undef) (s.tail.tail.tail.tail.headD undef) w R)
  (fun s w => Fimpl_MachFrames.r3 (s.headD undef) (s.tail.headD undef) (s.tail.tail.headD undef) (s.tail.tail.tail.headD undef) (s.tail.tail.tail.tail.headD undef) w R)
def Fimpl_MachFrames.H : Hints := {loop := fun i => match i with | 3 => some (0, [2, 3, 7, 8, 9]) | _ => none}
theorem Fimpl_MachFrames.eq (t0 : Value) : trF PR CX Fimpl_MachFrames.H Tryz.f41 [t0] = Fimpl_MachFrames t0 := by kernel_rfl
theorem Fimpl_MachFrames.cl {t0 : Value} {w : World} {R : VW} (h : Fimpl_MachFrames t0 w R) : clT PR 41 [t0] w R := cl_of_tr (H := Fimpl_MachFrames.H) ctxOk Tryz.func41 rfl (by rw [Fimpl_MachFrames.eq]; exact h)
def Fimpl_MoveOut (t0 t1 : Value) (w : World) (R : VW) : Prop :=
  boxT 42 t0 w fun t2 w1 =>
  boxT 37 t1 w1 fun t3 w2 =>
  allocT 57 #[(.slice none 0 0), (.int .i64 0), (.int .i64 0), (.slice none 0 0), (.int .i64 0)] w2 fun t4 w3 =>
  ldsT 1 t2 w3 fun t7 =>
  ldsT 8 t3 w3 fun t8 =>
  clT PR 37 [t7, t8] w3 fun t9 w4 =>
  notT t9 fun t10 =>
  condT t10
  (bldT #[(.slice none 0 0), (.int .i64 0), (.int .i64 0), (.slice none 0 0), (.int .i64 0)] [] fun t11 =>
  stsT 5 t4 t11 w4 fun w5 =>
  ldsT 5 t4 w5 fun r6 =>
  R (.tuple #[r6, (.bool false)]) w5)
  (ldsT 8 t3 w4 fun t12 =>
  clT PR 39 [t12] w4 fun t13 w7 =>
  fadT 5 t3 fun t17 =>
  ldT t17 (w7.drew) fun t18 =>
  fadT 6 t3 fun t19 =>
  ldT t19 (w7.drew) fun t20 =>
  fadT 7 t3 fun t22 =>
  ldT t22 (w7.drew) fun t23 =>
  clT PR 123 [t13] (w7.drew) fun t16 w8 =>
  (ldT t22 w8 fun u => u = t23) ∧
  (ldT t19 w8 fun u => u = t20) ∧
  (ldT t17 w8 fun u => u = t18) ∧
  clT PR 98 [t20] w8 fun t21 w9 =>
  (ldT t22 w9 fun u => u = t23) ∧
  (ldT t17 w9 fun u => u = t18) ∧
  bldT #[(.slice none 0 0), (.int .i64 0), (.int .i64 0), (.slice none 0 0), (.int .i64 0)] [(0, 1, t13), (1, 1, t16), (2, 1, t18), (3, 1, t21), (4, 1, t23)] fun t24 =>
  stsT 5 t4 t24 w9 fun w10 =>
  ldsT 5 t4 w10 fun r11 =>
  R (.tuple #[r11, (.bool true)]) w10)
def Fimpl_MoveOut.H : Hints := {draw := fun i => match i with | 4 => { T := [0, 0, 2, 0, 8, 0, 32, 102, 0, 256, 1023, 2047, 4095] } | _ => {}}
theorem Fimpl_MoveOut.eq (t0 t1 : Value) : trF PR CX Fimpl_MoveOut.H Tryz.f42 [t0, t1] = Fimpl_MoveOut t0 t1 := by kernel_rfl
theorem Fimpl_MoveOut.cl {t0 t1 : Value} {w : World} {R : VW} (h : Fimpl_MoveOut t0 t1 w R) : clT PR 42 [t0, t1] w R := cl_of_tr (H := Fimpl_MoveOut.H) ctxOk Tryz.func42 rfl (by rw [Fimpl_MoveOut.eq]; exact h)
def Fimpl_MachDeep.l1 (x1 x2 x3 x4 x5 : Value) (w : World) (Kn Kb Kr : LW) : Prop := ∀ _ : Env,
  condT x5
  (binT .add x3 (.int .i64 1) fun t20 =>
  binT .gtr t20 (.int .i64 30) fun t22 =>
  condT t22
  (Kr [x1, (.int .i64 0), t20, x4, x5] w)
  (ldsT 8 x1 w fun t24 =>
  ldsT 2 x4 w fun t25 =>
  clT PR 118 [t24, t25] w fun t26 w8 =>
  fldT false 5 1 t26 fun t27 =>
  condT t27
  (Kr [x1, (.int .i64 0), t20, x4, x5] w8)
  (ldsT 8 x1 w8 fun t30 =>
  ldsT 2 x4 w8 fun t31 =>
  clT PR 119 [t30, t31] w8 fun t32 w9 =>
  extT t32 0 fun t33 =>
  extT t32 1 fun t34 =>
  stsT 2 x4 t33 w9 fun w10 =>
  Kn [x1, x2, t20, x4, t34] w10)))
  (Kb [x1, x2, x3, x4, x5] w)
def Fimpl_MachDeep.k2 (x1 x2 x3 x4 x5 : Value) (w : World) (R : VW) : Prop := ∀ _ : Env,
  R x3 w
def Fimpl_MachDeep.r3 (x1 x2 x3 x4 x5 : Value) (w : World) (R : VW) : Prop := ∀ _ : Env,
  R x2 w
def Fimpl_MachDeep.j1 (x1 x2 x3 x4 x5 : Value) (w : World) (R : VW) : Prop := ∀ _ : Env,
  loopT (fun s w Kn Kb Kr => Fimpl_MachDeep.l1 (s.headD undef) (s.tail.headD undef) (s.tail.tail.headD undef) (s.tail.tail.tail.headD undef) (s.tail.tail.tail.tail.headD undef) w Kn Kb Kr) [x1, x2, x3, x4, x5] w
  (fun s w => Fimpl_MachDeep.k2 (s.headD undef) (s.tail.headD undef) (s.tail.tail.headD undef) (s.tail.tail.tail.headD undef) (s.tail.tail.tail.tail.headD undef) w R)
  (fun s w => Fimpl_MachDeep.r3 (s.headD undef) (s.tail.headD undef) (s.tail.tail.headD undef) (s.tail.tail.tail.headD undef) (s.tail.tail.tail.tail.headD undef) w R)
def Fimpl_MachDeep (t0 : Value) (w : World) (R : VW) : Prop :=
  boxT 37 t0 w fun t1 w1 =>
  ldsT 8 t1 w1 fun t6 =>
  clT PR 115 [t6] w1 fun t7 w2 =>
  notT t7 fun t8 =>
  condT t8
  (R (.int .i64 0) w2)
  (ldsT 8 t1 w2 fun t10 =>
  clT PR 114 [t10] w2 fun t11 w3 =>
  extT t11 0 fun t12 =>
  extT t11 1 fun t13 =>
  allocT 142 #[(.int .i64 0), (.int .i64 0)] w3 fun t4 w4 =>
  stsT 2 t4 t12 w4 fun w5 =>
  condT t13
  (ldsT 8 t1 w5 fun t15 =>
  ldsT 2 t4 w5 fun t16 =>
  clT PR 117 [t15, t16] w5 fun t17 w6 =>
  stsT 2 t4 t17 w6 fun w7 =>
  Fimpl_MachDeep.j1 t1 (.int .i64 0) (.int .i64 0) t4 t13 w7 R)
  (Fimpl_MachDeep.j1 t1 (.int .i64 0) (.int .i64 0) t4 t13 w5 R))
def Fimpl_MachDeep.H : Hints := {loop := fun i => match i with | 7 => some (0, [1, 2, 3, 4, 5]) | _ => none, join := fun i => match i with | 14 => some [1, 2, 3, 4, 5] | _ => none}
def Fimpl_roomsOk (t0 t1 : Value) (w : World) (R : VW) : Prop :=
  clT PR 121 [t0, (.int .i64 1), (.int .i64 4)] w fun t6 w1 =>
  condT t6
  (clT PR 121 [t1, (.int .i64 14), (.int .i64 60)] w1 fun t9 w2 =>
  R t9 w2)
  (R (.bool false) w1)
def Fimpl_roomsOk.H : Hints := {}
theorem Fimpl_roomsOk.eq (t0 t1 : Value) : trF PR CX Fimpl_roomsOk.H Tryz.f96 [t0, t1] = Fimpl_roomsOk t0 t1 := by kernel_rfl
theorem Fimpl_roomsOk.cl {t0 t1 : Value} {w : World} {R : VW} (h : Fimpl_roomsOk t0 t1 w R) : clT PR 96 [t0, t1] w R := cl_of_tr (H := Fimpl_roomsOk.H) ctxOk Tryz.func96 rfl (by rw [Fimpl_roomsOk.eq]; exact h)
def Fimpl_bare.l1 (x0 x4 x5 x9 x10 : Value) (w : World) (Kn Kb Kr : LW) : Prop := ∀ _ : Env,
  binT .lss x10 x9 fun t11 =>
  condT t11
  (fadT 1 x5 fun t13 =>
  ldT t13 w fun t14 =>
  bldT #[(.int .i64 0), (.slice none 0 0)] [(0, 1, (.int .i64 (-1)))] fun t15 =>
  bslT 116 1 2 #[(.int .i64 0), (.slice none 0 0)] [(0, 2, t15)] w fun t16 w4 =>
  opT PR (Builtin.append_ #[33, 33] 33 #[t14, t16]) w4 fun t17 w5 =>
  fadT 1 x5 fun t18 =>
  stT t18 t17 w5 fun w6 =>
  fadT 2 x5 fun t19 =>
  ldT t19 (w6.drew) fun t20 =>
  binT .add x10 (.int .i64 1) fun t22 =>
  binT .rem t22 x0 fun t24 =>
  bslT 3 1 1 #[(.int .i64 0)] [(0, 1, t24)] (w6.drew) fun t25 w7 =>
  (ldT t19 w7 fun u => u = t20) ∧
  opT PR (Builtin.append_ #[26, 26] 26 #[t20, t25]) w7 fun t26 w8 =>
  fadT 2 x5 fun t27 =>
  stT t27 t26 w8 fun w9 =>
  binT .add x10 (.int .i64 1) fun t28 =>
  Kn [x0, x4, x5, x9, t28] w9)
  (Kb [x0, x4, x5, x9, x10] w)
def Fimpl_bare.k2 (x0 x4 x5 x9 x10 : Value) (w : World) (R : VW) : Prop := ∀ _ : Env,
  ldsT 8 x5 w fun t29 =>
  stsT 8 x4 t29 w fun w10 =>
  ldsT 8 x4 w10 fun r11 =>
  R r11 w10
def Fimpl_bare.r3 (x0 x4 x5 x9 x10 : Value) (w : World) (R : VW) : Prop := ∀ _ : Env,
  ldsT 8 x4 w fun r12 =>
  R r12 w
def Fimpl_bare (t0 t1 : Value) (w : World) (R : VW) : Prop :=
  allocT 37 #[(.int .i64 0), (.slice none 0 0), (.slice none 0 0), (.int .i64 0), (.slice none 0 0), (.int .i64 0), (.slice none 0 0), (.int .i64 0)] w fun t4 w1 =>
  bldT #[(.int .i64 0), (.slice none 0 0), (.slice none 0 0), (.int .i64 0), (.slice none 0 0), (.int .i64 0), (.slice none 0 0), (.int .i64 0)] [(0, 1, t1)] fun t8 =>
  allocT 37 #[(.int .i64 0), (.slice none 0 0), (.slice none 0 0), (.int .i64 0), (.slice none 0 0), (.int .i64 0), (.slice none 0 0), (.int .i64 0)] w1 fun t5 w2 =>
  stsT 8 t5 t8 w2 fun w3 =>
  loopT (fun s w Kn Kb Kr => Fimpl_bare.l1 (s.headD undef) (s.tail.headD undef) (s.tail.tail.headD undef) (s.tail.tail.tail.headD undef) (s.tail.tail.tail.tail.headD undef) w Kn Kb Kr) [t0, t4, t5, t0, (.int .i64 0)] w3
  (fun s w => Fimpl_bare.k2 (s.headD undef) (s.tail.headD undef) (s.tail.tail.headD undef) (s.tail.tail.tail.headD undef) (s.tail.tail.tail.tail.headD undef) w R)
  (fun s w => Fimpl_bare.r3 (s.headD undef) (s.tail.headD undef) (s.tail.tail.headD undef) (s.tail.tail.tail.headD undef) (s.tail.tail.tail.tail.headD undef) w R)
def Fimpl_bare.H : Hints := {draw := fun i => match i with | 6 => { T := [0, 1, 0, 4, 0, 28, 60, 127, 255, 511] } | _ => {}, loop := fun i => match i with | 3 => some (0, [0, 4, 5, 9, 10]) | _ => none}
theorem Fimpl_bare.eq (t0 t1 : Value) : trF PR CX Fimpl_bare.H Tryz.f97 [t0, t1] = Fimpl_bare t0 t1 := by kernel_rfl
theorem Fimpl_bare.cl {t0 t1 : Value} {w : World} {R : VW} (h : Fimpl_bare t0 t1 w R) : clT PR 97 [t0, t1] w R := cl_of_tr (H := Fimpl_bare.H) ctxOk Tryz.func97 rfl (by rw [Fimpl_bare.eq]; exact h)
def Fimpl_Mach_put (t0 t1 t2 : Value) (w : World) (R : VW) : Prop :=
  nilT PR t0 fun t8 =>
  fadT 4 t8 fun t9 =>
  ldT t9 w fun t10 =>
  ixaT 8 t10 t1 fun t12 =>
  fadT 2 t12 fun t13 =>
  ldsT 6 t13 w fun t14 =>
  allocT 89 #[(.int .i64 0), (.int .i64 0), (.slice none 0 0), (.slice none 0 0), (.int .i64 0), (.bool false)] w fun t6 w1 =>
  stsT 6 t6 t14 w1 fun w2 =>
  nilT PR t0 fun t16 =>
  fadT 4 t16 fun t17 =>
  ldT t17 w2 fun t18 =>
  bldT #[(.int .i64 0), (.int .i64 0), (.int .i64 0), (.int .i64 0), (.slice none 0 0), (.slice none 0 0), (.int .i64 0), (.bool false)] [(0, 1, t2)] fun t21 =>
  ixaT 8 t18 t1 fun t22 =>
  stsT 8 t22 t21 w2 fun w3 =>
  nilT PR t0 fun t24 =>
  fadT 1 t24 fun t25 =>
  ldT t25 (w3.drew) fun t26 =>
  fadT 4 t6 fun t28 =>
  ldT t28 (w3.drew) fun t29 =>
  ldsT 6 t6 (w3.drew) fun t30 =>
  clT PR 126 [t30, t1] (w3.drew) fun t32 w4 =>
  (ldT t28 w4 fun u => u = t29) ∧
  (ldT t25 w4 fun u => u = t26) ∧
  bslT 162 1 5 #[(.int .i64 0), (.int .i64 0), (.int .i64 0), (.slice none 0 0), (.slice none 0 0)] [(0, 5, t32)] w4 fun t33 w5 =>
  (ldT t28 w5 fun u => u = t29) ∧
  (ldT t25 w5 fun u => u = t26) ∧
  bldT #[(.int .i64 0), (.slice none 0 0)] [(0, 1, t29), (1, 1, t33)] fun t34 =>
  ixaT 2 t26 t2 fun t35 =>
  stsT 2 t35 t34 w5 fun w6 =>
  R (.tuple #[]) w6
def Fimpl_Mach_put.H : Hints := {draw := fun i => match i with | 2 => { T := [0, 1, 3, 7, 0, 0, 32, 0, 0, 384, 896, 2016, 4095, 8191] } | _ => {}}
theorem Fimpl_Mach_put.eq (t0 t1 t2 : Value) : trF PR CX Fimpl_Mach_put.H Tryz.f100 [t0, t1, t2] = Fimpl_Mach_put t0 t1 t2 := by kernel_rfl
theorem Fimpl_Mach_put.cl {t0 t1 t2 : Value} {w : World} {R : VW} (h : Fimpl_Mach_put t0 t1 t2 w R) : clT PR 100 [t0, t1, t2] w R := cl_of_tr (H := Fimpl_Mach_put.H) ctxOk Tryz.func100 rfl (by rw [Fimpl_Mach_put.eq]; exact h)
def Fimpl_Mach_ordered.l1 (x1 x2 x8 x9 : Value) (w : World) (Kn Kb Kr : LW) : Prop := ∀ _ : Env,
  binT .lss x9 x8 fun t10 =>
  condT t10
  (fadT 2 x1 fun t12 =>
  ldT t12 w fun t13 =>
  clT PR 176 [t13, x9] w fun t15 w2 =>
  notT t15 fun t16 =>
  condT t16
  (Kr [x1, (.bool false), x8, x9] w2)
  (binT .add x9 (.int .i64 1) fun t17 =>
  Kn [x1, x2, x8, t17] w2))
  (Kb [x1, x2, x8, x9] w)
def Fimpl_Mach_ordered.k2 (x1 x2 x8 x9 : Value) (w : World) (R : VW) : Prop := ∀ _ : Env,
  fadT 2 x1 fun t18 =>
  ldT t18 w fun t19 =>
  lenT t19 fun t20 =>
  fadT 1 x1 fun t21 =>
  ldT t21 w fun t22 =>
  lenT t22 fun t23 =>
  binT .neq t20 t23 fun t24 =>
  condT t24
  (R (.bool false) w)
  (ldsT 8 x1 w fun t26 =>
  clT PR 114 [t26] w fun t27 w3 =>
  extT t27 0 fun t28 =>
  extT t27 1 fun t29 =>
  allocT 142 #[(.int .i64 0), (.int .i64 0)] w3 fun t4 w4 =>
  stsT 2 t4 t28 w4 fun w5 =>
  fadT 3 x1 fun t30 =>
  ldT t30 (w5.drew) fun t31 =>
  binT .eql t31 (.int .i64 (-1)) fun t32 =>
  condT t32
  (R (.bool true) (w5.drew))
  (condT t29
  (fadT 2 x1 fun t36 =>
  ldT t36 (w5.drew) fun t37 =>
  fadT 2 x1 fun t38 =>
  ldT t38 (w5.drew) fun t39 =>
  lenT t39 fun t40 =>
  binT .sub t40 (.int .i64 1) fun t41 =>
  ixaT 1 t37 t41 fun t42 =>
  ldT t42 (w5.drew) fun t43 =>
  fadT 3 x1 fun t44 =>
  ldT t44 (w5.drew) fun t45 =>
  binT .eql t43 t45 fun t46 =>
  R t46 (w5.drew))
  (R (.bool false) (w5.drew))))
def Fimpl_Mach_ordered.r3 (x1 x2 x8 x9 : Value) (w : World) (R : VW) : Prop := ∀ _ : Env,
  R x2 w
def Fimpl_Mach_ordered (t0 : Value) (w : World) (R : VW) : Prop :=
  boxT 37 t0 w fun t1 w1 =>
  fadT 1 t1 fun t6 =>
  ldT t6 w1 fun t7 =>
  lenT t7 fun t8 =>
  loopT (fun s w Kn Kb Kr => Fimpl_Mach_ordered.l1 (s.headD undef) (s.tail.headD undef) (s.tail.tail.headD undef) (s.tail.tail.tail.headD undef) w Kn Kb Kr) [t1, (.bool false), t8, (.int .i64 0)] w1
  (fun s w => Fimpl_Mach_ordered.k2 (s.headD undef) (s.tail.headD undef) (s.tail.tail.headD undef) (s.tail.tail.tail.headD undef) w R)
  (fun s w => Fimpl_Mach_ordered.r3 (s.headD undef) (s.tail.headD undef) (s.tail.tail.headD undef) (s.tail.tail.tail.headD undef) w R)
def Fimpl_Mach_ordered.H : Hints := {draw := fun i => match i with | 10 => { T := [0, 1, 3, 7, 15, 31, 63, 127, 63, 319, 831, 1855, 4095, 8191, 63, 16447, 65535, 131071, 262143, 524287] } | _ => {}, loop := fun i => match i with | 2 => some (0, [1, 2, 8, 9]) | _ => none}
theorem Fimpl_Mach_ordered.eq (t0 : Value) : trF PR CX Fimpl_Mach_ordered.H Tryz.f110 [t0] = Fimpl_Mach_ordered t0 := by kernel_rfl
theorem Fimpl_Mach_ordered.cl {t0 : Value} {w : World} {R : VW} (h : Fimpl_Mach_ordered t0 w R) : clT PR 110 [t0] w R := cl_of_tr (H := Fimpl_Mach_ordered.H) ctxOk Tryz.func110 rfl (by rw [Fimpl_Mach_ordered.eq]; exact h)
def Fimpl_Mach_shaped.l2 (x2 x3 x4 x5 x6 x20 x21 x22 x79 x80 x81 : Value) (w : World) (Kn Kb Kr : LW) : Prop := ∀ _ : Env,
  binT .lss x81 x80 fun t82 =>
  condT t82
  (ixaT 5 x79 x81 fun t84 =>
  ldsT 5 t84 w fun t85 =>
  allocT 162 #[(.int .i64 0), (.int .i64 0), (.int .i64 0), (.slice none 0 0), (.slice none 0 0)] w fun t11 w10 =>
  stsT 5 t11 t85 w10 fun w11 =>
  ldsT 5 t11 (w11.drew) fun t86 =>
  ldsT 1 x3 (w11.drew) fun t88 =>
  clT PR 182 [t86, (.int .i64 (-1))] (w11.drew) fun t87 w12 =>
  (ldsT 1 x3 w12 fun u => u = t88) ∧
  clT PR 149 [t87, t88, x5] w12 fun t90 w13 =>
  notT t90 fun t91 =>
  condT t91
  (Kr [x2, x3, (.bool false), x5, x6, x20, x21, x22, x79, x80, x81] w13)
  (fadT 2 t11 fun t93 =>
  ldT t93 w13 fun t94 =>
  binT .sub x5 (.int .i64 1) fun t96 =>
  clT PR 121 [t94, (.int .i64 (-1)), t96] w13 fun t97 w14 =>
  notT t97 fun t98 =>
  condT t98
  (Kr [x2, x3, (.bool false), x5, x6, x20, x21, x22, x79, x80, x81] w14)
  (fadT 2 t11 fun t100 =>
  ldT t100 w14 fun t101 =>
  binT .geq t101 (.int .i64 0) fun t102 =>
  condT t102
  (fadT 4 x2 fun t104 =>
  ldT t104 w14 fun t105 =>
  fadT 2 t11 fun t106 =>
  ldT t106 w14 fun t107 =>
  ixaT 8 t105 t107 fun t108 =>
  fadT 0 t108 fun t109 =>
  ldT t109 w14 fun t110 =>
  binT .neq t110 x6 fun t112 =>
  condT t112
  (Kr [x2, x3, (.bool false), x5, x6, x20, x21, x22, x79, x80, x81] w14)
  (fadT 4 x2 fun t114 =>
  ldT t114 w14 fun t115 =>
  fadT 2 t11 fun t116 =>
  ldT t116 w14 fun t117 =>
  ixaT 8 t115 t117 fun t118 =>
  fadT 1 t118 fun t119 =>
  ldT t119 w14 fun t120 =>
  binT .neq t120 x81 fun t122 =>
  condT t122
  (Kr [x2, x3, (.bool false), x5, x6, x20, x21, x22, x79, x80, x81] w14)
  (binT .add x81 (.int .i64 1) fun t125 =>
  Kn [x2, x3, x4, x5, x6, x20, x21, x22, x79, x80, t125] w14)))
  (binT .add x81 (.int .i64 1) fun t125 =>
  Kn [x2, x3, x4, x5, x6, x20, x21, x22, x79, x80, t125] w14))))
  (Kb [x2, x3, x4, x5, x6, x20, x21, x22, x79, x80, x81] w)
def Fimpl_Mach_shaped.k3 (x2 x3 x4 x5 x6 x20 x21 x22 x79 x80 x81 : Value) (w : World) (Kn Kb Kr : LW) : Prop := ∀ _ : Env,
  binT .add x22 (.int .i64 1) fun t126 =>
  Kn [x2, x3, x4, x5, x20, x21, t126] w
def Fimpl_Mach_shaped.r4 (x2 x3 x4 x5 x6 x20 x21 x22 x79 x80 x81 : Value) (w : World) (Kn Kb Kr : LW) : Prop := ∀ _ : Env,
  Kr [x2, x3, x4, x5, x20, x21, x22] w
def Fimpl_Mach_shaped.l5 (x2 x3 x4 x5 x6 x20 x21 x22 x79 x80 x81 : Value) (w : World) (Kn Kb Kr : LW) : Prop := ∀ _ : Env,
  binT .lss x81 x80 fun t82 =>
  condT t82
  (ixaT 5 x79 x81 fun t84 =>
  ldsT 5 t84 w fun t85 =>
  allocT 162 #[(.int .i64 0), (.int .i64 0), (.int .i64 0), (.slice none 0 0), (.slice none 0 0)] w fun t11 w15 =>
  stsT 5 t11 t85 w15 fun w16 =>
  ldsT 5 t11 (w16.drew) fun t86 =>
  ldsT 1 x3 (w16.drew) fun t88 =>
  clT PR 182 [t86, (.int .i64 (-1))] (w16.drew) fun t87 w17 =>
  (ldsT 1 x3 w17 fun u => u = t88) ∧
  clT PR 149 [t87, t88, x5] w17 fun t90 w18 =>
  notT t90 fun t91 =>
  condT t91
  (Kr [x2, x3, (.bool false), x5, x6, x20, x21, x22, x79, x80, x81] w18)
  (fadT 2 t11 fun t93 =>
  ldT t93 w18 fun t94 =>
  binT .sub x5 (.int .i64 1) fun t96 =>
  clT PR 121 [t94, (.int .i64 (-1)), t96] w18 fun t97 w19 =>
  notT t97 fun t98 =>
  condT t98
  (Kr [x2, x3, (.bool false), x5, x6, x20, x21, x22, x79, x80, x81] w19)
  (fadT 2 t11 fun t100 =>
  ldT t100 w19 fun t101 =>
  binT .geq t101 (.int .i64 0) fun t102 =>
  condT t102
  (fadT 4 x2 fun t104 =>
  ldT t104 w19 fun t105 =>
  fadT 2 t11 fun t106 =>
  ldT t106 w19 fun t107 =>
  ixaT 8 t105 t107 fun t108 =>
  fadT 0 t108 fun t109 =>
  ldT t109 w19 fun t110 =>
  binT .neq t110 x6 fun t112 =>
  condT t112
  (Kr [x2, x3, (.bool false), x5, x6, x20, x21, x22, x79, x80, x81] w19)
  (fadT 4 x2 fun t114 =>
  ldT t114 w19 fun t115 =>
  fadT 2 t11 fun t116 =>
  ldT t116 w19 fun t117 =>
  ixaT 8 t115 t117 fun t118 =>
  fadT 1 t118 fun t119 =>
  ldT t119 w19 fun t120 =>
  binT .neq t120 x81 fun t122 =>
  condT t122
  (Kr [x2, x3, (.bool false), x5, x6, x20, x21, x22, x79, x80, x81] w19)
  (binT .add x81 (.int .i64 1) fun t125 =>
  Kn [x2, x3, x4, x5, x6, x20, x21, x22, x79, x80, t125] w19)))
  (binT .add x81 (.int .i64 1) fun t125 =>
  Kn [x2, x3, x4, x5, x6, x20, x21, x22, x79, x80, t125] w19))))
  (Kb [x2, x3, x4, x5, x6, x20, x21, x22, x79, x80, x81] w)
def Fimpl_Mach_shaped.l6 (x2 x3 x4 x5 x6 x20 x21 x22 x79 x80 x81 : Value) (w : World) (Kn Kb Kr : LW) : Prop := ∀ _ : Env,
  binT .lss x81 x80 fun t82 =>
  condT t82
  (ixaT 5 x79 x81 fun t84 =>
  ldsT 5 t84 w fun t85 =>
  allocT 162 #[(.int .i64 0), (.int .i64 0), (.int .i64 0), (.slice none 0 0), (.slice none 0 0)] w fun t11 w20 =>
  stsT 5 t11 t85 w20 fun w21 =>
  ldsT 5 t11 (w21.drew) fun t86 =>
  ldsT 1 x3 (w21.drew) fun t88 =>
  clT PR 182 [t86, (.int .i64 (-1))] (w21.drew) fun t87 w22 =>
  (ldsT 1 x3 w22 fun u => u = t88) ∧
  clT PR 149 [t87, t88, x5] w22 fun t90 w23 =>
  notT t90 fun t91 =>
  condT t91
  (Kr [x2, x3, (.bool false), x5, x6, x20, x21, x22, x79, x80, x81] w23)
  (fadT 2 t11 fun t93 =>
  ldT t93 w23 fun t94 =>
  binT .sub x5 (.int .i64 1) fun t96 =>
  clT PR 121 [t94, (.int .i64 (-1)), t96] w23 fun t97 w24 =>
  notT t97 fun t98 =>
  condT t98
  (Kr [x2, x3, (.bool false), x5, x6, x20, x21, x22, x79, x80, x81] w24)
  (fadT 2 t11 fun t100 =>
  ldT t100 w24 fun t101 =>
  binT .geq t101 (.int .i64 0) fun t102 =>
  condT t102
  (fadT 4 x2 fun t104 =>
  ldT t104 w24 fun t105 =>
  fadT 2 t11 fun t106 =>
  ldT t106 w24 fun t107 =>
  ixaT 8 t105 t107 fun t108 =>
  fadT 0 t108 fun t109 =>
  ldT t109 w24 fun t110 =>
  binT .neq t110 x6 fun t112 =>
  condT t112
  (Kr [x2, x3, (.bool false), x5, x6, x20, x21, x22, x79, x80, x81] w24)
  (fadT 4 x2 fun t114 =>
  ldT t114 w24 fun t115 =>
  fadT 2 t11 fun t116 =>
  ldT t116 w24 fun t117 =>
  ixaT 8 t115 t117 fun t118 =>
  fadT 1 t118 fun t119 =>
  ldT t119 w24 fun t120 =>
  binT .neq t120 x81 fun t122 =>
  condT t122
  (Kr [x2, x3, (.bool false), x5, x6, x20, x21, x22, x79, x80, x81] w24)
  (binT .add x81 (.int .i64 1) fun t125 =>
  Kn [x2, x3, x4, x5, x6, x20, x21, x22, x79, x80, t125] w24)))
  (binT .add x81 (.int .i64 1) fun t125 =>
  Kn [x2, x3, x4, x5, x6, x20, x21, x22, x79, x80, t125] w24))))
  (Kb [x2, x3, x4, x5, x6, x20, x21, x22, x79, x80, x81] w)
def Fimpl_Mach_shaped.l7 (x2 x3 x4 x5 x6 x20 x21 x22 x79 x80 x81 : Value) (w : World) (Kn Kb Kr : LW) : Prop := ∀ _ : Env,
  binT .lss x81 x80 fun t82 =>
  condT t82
  (ixaT 5 x79 x81 fun t84 =>
  ldsT 5 t84 w fun t85 =>
  allocT 162 #[(.int .i64 0), (.int .i64 0), (.int .i64 0), (.slice none 0 0), (.slice none 0 0)] w fun t11 w29 =>
  stsT 5 t11 t85 w29 fun w30 =>
  ldsT 5 t11 (w30.drew) fun t86 =>
  ldsT 1 x3 (w30.drew) fun t88 =>
  clT PR 182 [t86, (.int .i64 (-1))] (w30.drew) fun t87 w31 =>
  (ldsT 1 x3 w31 fun u => u = t88) ∧
  clT PR 149 [t87, t88, x5] w31 fun t90 w32 =>
  notT t90 fun t91 =>
  condT t91
  (Kr [x2, x3, (.bool false), x5, x6, x20, x21, x22, x79, x80, x81] w32)
  (fadT 2 t11 fun t93 =>
  ldT t93 w32 fun t94 =>
  binT .sub x5 (.int .i64 1) fun t96 =>
  clT PR 121 [t94, (.int .i64 (-1)), t96] w32 fun t97 w33 =>
  notT t97 fun t98 =>
  condT t98
  (Kr [x2, x3, (.bool false), x5, x6, x20, x21, x22, x79, x80, x81] w33)
  (fadT 2 t11 fun t100 =>
  ldT t100 w33 fun t101 =>
  binT .geq t101 (.int .i64 0) fun t102 =>
  condT t102
  (fadT 4 x2 fun t104 =>
  ldT t104 w33 fun t105 =>
  fadT 2 t11 fun t106 =>
  ldT t106 w33 fun t107 =>
  ixaT 8 t105 t107 fun t108 =>
  fadT 0 t108 fun t109 =>
  ldT t109 w33 fun t110 =>
  binT .neq t110 x6 fun t112 =>
  condT t112
  (Kr [x2, x3, (.bool false), x5, x6, x20, x21, x22, x79, x80, x81] w33)
  (fadT 4 x2 fun t114 =>
  ldT t114 w33 fun t115 =>
  fadT 2 t11 fun t116 =>
  ldT t116 w33 fun t117 =>
  ixaT 8 t115 t117 fun t118 =>
  fadT 1 t118 fun t119 =>
  ldT t119 w33 fun t120 =>
  binT .neq t120 x81 fun t122 =>
  condT t122
  (Kr [x2, x3, (.bool false), x5, x6, x20, x21, x22, x79, x80, x81] w33)
  (binT .add x81 (.int .i64 1) fun t125 =>
  Kn [x2, x3, x4, x5, x6, x20, x21, x22, x79, x80, t125] w33)))
  (binT .add x81 (.int .i64 1) fun t125 =>
  Kn [x2, x3, x4, x5, x6, x20, x21, x22, x79, x80, t125] w33))))
  (Kb [x2, x3, x4, x5, x6, x20, x21, x22, x79, x80, x81] w)
def Fimpl_Mach_shaped.l8 (x2 x3 x4 x5 x6 x20 x21 x22 x79 x80 x81 : Value) (w : World) (Kn Kb Kr : LW) : Prop := ∀ _ : Env,
  binT .lss x81 x80 fun t82 =>
  condT t82
  (ixaT 5 x79 x81 fun t84 =>
  ldsT 5 t84 w fun t85 =>
  allocT 162 #[(.int .i64 0), (.int .i64 0), (.int .i64 0), (.slice none 0 0), (.slice none 0 0)] w fun t11 w34 =>
  stsT 5 t11 t85 w34 fun w35 =>
  ldsT 5 t11 (w35.drew) fun t86 =>
  ldsT 1 x3 (w35.drew) fun t88 =>
  clT PR 182 [t86, (.int .i64 (-1))] (w35.drew) fun t87 w36 =>
  (ldsT 1 x3 w36 fun u => u = t88) ∧
  clT PR 149 [t87, t88, x5] w36 fun t90 w37 =>
  notT t90 fun t91 =>
  condT t91
  (Kr [x2, x3, (.bool false), x5, x6, x20, x21, x22, x79, x80, x81] w37)
  (fadT 2 t11 fun t93 =>
  ldT t93 w37 fun t94 =>
  binT .sub x5 (.int .i64 1) fun t96 =>
  clT PR 121 [t94, (.int .i64 (-1)), t96] w37 fun t97 w38 =>
  notT t97 fun t98 =>
  condT t98
  (Kr [x2, x3, (.bool false), x5, x6, x20, x21, x22, x79, x80, x81] w38)
  (fadT 2 t11 fun t100 =>
  ldT t100 w38 fun t101 =>
  binT .geq t101 (.int .i64 0) fun t102 =>
  condT t102
  (fadT 4 x2 fun t104 =>
  ldT t104 w38 fun t105 =>
  fadT 2 t11 fun t106 =>
  ldT t106 w38 fun t107 =>
  ixaT 8 t105 t107 fun t108 =>
  fadT 0 t108 fun t109 =>
  ldT t109 w38 fun t110 =>
  binT .neq t110 x6 fun t112 =>
  condT t112
  (Kr [x2, x3, (.bool false), x5, x6, x20, x21, x22, x79, x80, x81] w38)
  (fadT 4 x2 fun t114 =>
  ldT t114 w38 fun t115 =>
  fadT 2 t11 fun t116 =>
  ldT t116 w38 fun t117 =>
  ixaT 8 t115 t117 fun t118 =>
  fadT 1 t118 fun t119 =>
  ldT t119 w38 fun t120 =>
  binT .neq t120 x81 fun t122 =>
  condT t122
  (Kr [x2, x3, (.bool false), x5, x6, x20, x21, x22, x79, x80, x81] w38)
  (binT .add x81 (.int .i64 1) fun t125 =>
  Kn [x2, x3, x4, x5, x6, x20, x21, x22, x79, x80, t125] w38)))
  (binT .add x81 (.int .i64 1) fun t125 =>
  Kn [x2, x3, x4, x5, x6, x20, x21, x22, x79, x80, t125] w38))))
  (Kb [x2, x3, x4, x5, x6, x20, x21, x22, x79, x80, x81] w)
def Fimpl_Mach_shaped.l9 (x2 x3 x4 x5 x6 x20 x21 x22 x79 x80 x81 : Value) (w : World) (Kn Kb Kr : LW) : Prop := ∀ _ : Env,
  binT .lss x81 x80 fun t82 =>
  condT t82
  (ixaT 5 x79 x81 fun t84 =>
  ldsT 5 t84 w fun t85 =>
  allocT 162 #[(.int .i64 0), (.int .i64 0), (.int .i64 0), (.slice none 0 0), (.slice none 0 0)] w fun t11 w39 =>
  stsT 5 t11 t85 w39 fun w40 =>
  ldsT 5 t11 (w40.drew) fun t86 =>
  ldsT 1 x3 (w40.drew) fun t88 =>
  clT PR 182 [t86, (.int .i64 (-1))] (w40.drew) fun t87 w41 =>
  (ldsT 1 x3 w41 fun u => u = t88) ∧
  clT PR 149 [t87, t88, x5] w41 fun t90 w42 =>
  notT t90 fun t91 =>
  condT t91
  (Kr [x2, x3, (.bool false), x5, x6, x20, x21, x22, x79, x80, x81] w42)
  (fadT 2 t11 fun t93 =>
  ldT t93 w42 fun t94 =>
  binT .sub x5 (.int .i64 1) fun t96 =>
  clT PR 121 [t94, (.int .i64 (-1)), t96] w42 fun t97 w43 =>
  notT t97 fun t98 =>
  condT t98
  (Kr [x2, x3, (.bool false), x5, x6, x20, x21, x22, x79, x80, x81] w43)
  (fadT 2 t11 fun t100 =>
  ldT t100 w43 fun t101 =>
  binT .geq t101 (.int .i64 0) fun t102 =>
  condT t102
  (fadT 4 x2 fun t104 =>
  ldT t104 w43 fun t105 =>
  fadT 2 t11 fun t106 =>
  ldT t106 w43 fun t107 =>
  ixaT 8 t105 t107 fun t108 =>
  fadT 0 t108 fun t109 =>
  ldT t109 w43 fun t110 =>
  binT .neq t110 x6 fun t112 =>
  condT t112
  (Kr [x2, x3, (.bool false), x5, x6, x20, x21, x22, x79, x80, x81] w43)
  (fadT 4 x2 fun t114 =>
  ldT t114 w43 fun t115 =>
  fadT 2 t11 fun t116 =>
  ldT t116 w43 fun t117 =>
  ixaT 8 t115 t117 fun t118 =>
  fadT 1 t118 fun t119 =>
  ldT t119 w43 fun t120 =>
  binT .neq t120 x81 fun t122 =>
  condT t122
  (Kr [x2, x3, (.bool false), x5, x6, x20, x21, x22, x79, x80, x81] w43)
  (binT .add x81 (.int .i64 1) fun t125 =>
  Kn [x2, x3, x4, x5, x6, x20, x21, x22, x79, x80, t125] w43)))
  (binT .add x81 (.int .i64 1) fun t125 =>
  Kn [x2, x3, x4, x5, x6, x20, x21, x22, x79, x80, t125] w43))))
  (Kb [x2, x3, x4, x5, x6, x20, x21, x22, x79, x80, x81] w)
def Fimpl_Mach_shaped.l1 (x2 x3 x4 x5 x20 x21 x22 : Value) (w : World) (Kn Kb Kr : LW) : Prop := ∀ _ : Env,
  binT .lss x22 x21 fun t23 =>
  condT t23
  (ixaT 2 x20 x22 fun t25 =>
  ldsT 2 t25 w fun t26 =>
  allocT 116 #[(.int .i64 0), (.slice none 0 0)] w fun t7 w3 =>
  stsT 2 t7 t26 w3 fun w4 =>
  fadT 0 t7 fun t27 =>
  ldT t27 (w4.drew) fun t28 =>
  binT .sub x5 (.int .i64 1) fun t30 =>
  clT PR 121 [t28, (.int .i64 (-1)), t30] (w4.drew) fun t31 w5 =>
  notT t31 fun t32 =>
  condT t32
  (Kr [x2, x3, (.bool false), x5, x20, x21, x22] w5)
  (fadT 1 t7 fun t34 =>
  ldT t34 w5 fun t35 =>
  lenT t35 fun t36 =>
  binT .eql t36 (.int .i64 0) fun t37 =>
  condT t37
  (fadT 0 t7 fun t39 =>
  ldT t39 w5 fun t40 =>
  binT .neq t40 (.int .i64 (-1)) fun t41 =>
  condT t41
  (Kr [x2, x3, (.bool false), x5, x20, x21, x22] w5)
  (ldsT 2 t7 w5 fun t45 =>
  fadT 0 x2 fun t47 =>
  ldT t47 w5 fun t48 =>
  clT PR 180 [t45] w5 fun t46 w6 =>
  (ldT t47 w6 fun u => u = t48) ∧
  binT .gtr t46 t48 fun t49 =>
  condT t49
  (Kr [x2, x3, (.bool false), x5, x20, x21, x22] w6)
  (ldsT 8 x2 w6 fun t52 =>
  fadT 0 t7 fun t53 =>
  ldT t53 w6 fun t54 =>
  clT PR 181 [t52, t54] w6 fun t55 w7 =>
  extT t55 0 fun t56 =>
  extT t55 1 fun t57 =>
  allocT 142 #[(.int .i64 0), (.int .i64 0)] w7 fun t8 w8 =>
  stsT 2 t8 t56 w8 fun w9 =>
  condT t57
  (fadT 0 t8 fun t60 =>
  ldT t60 (w9.drew) fun t61 =>
  binT .geq t61 (.int .i64 0) fun t62 =>
  condT t62
  (fadT 1 t8 fun t65 =>
  ldT t65 (w9.drew) fun t66 =>
  fadT 1 x2 fun t67 =>
  ldT t67 (w9.drew) fun t68 =>
  fadT 0 t8 fun t69 =>
  ldT t69 (w9.drew) fun t70 =>
  ixaT 2 t68 t70 fun t71 =>
  fadT 1 t71 fun t72 =>
  ldT t72 (w9.drew) fun t73 =>
  lenT t73 fun t74 =>
  binT .sub t74 (.int .i64 1) fun t75 =>
  binT .neq t66 t75 fun t76 =>
  condT t76
  (Kr [x2, x3, (.bool false), x5, x20, x21, x22] (w9.drew))
  (fadT 1 t7 fun t78 =>
  ldT t78 (w9.drew) fun t79 =>
  lenT t79 fun t80 =>
  loopT (fun s w Kn Kb Kr => Fimpl_Mach_shaped.l2 (s.headD undef) (s.tail.headD undef) (s.tail.tail.headD undef) (s.tail.tail.tail.headD undef) (s.tail.tail.tail.tail.headD undef) (s.tail.tail.tail.tail.tail.headD undef) (s.tail.tail.tail.tail.tail.tail.headD undef) (s.tail.tail.tail.tail.tail.tail.tail.headD undef) (s.tail.tail.tail.tail.tail.tail.tail.tail.headD undef) (s.tail.tail.tail.tail.tail.tail.tail.tail.tail.headD undef) (s.tail.tail.tail.tail.tail.tail.tail.tail.tail.tail.headD undef) w Kn Kb Kr) [x2, x3, x4, x5, x22, x20, x21, x22, t79, t80, (.int .i64 0)] (w9.drew)
  (fun s w => Fimpl_Mach_shaped.k3 (s.headD undef) (s.tail.headD undef) (s.tail.tail.headD undef) (s.tail.tail.tail.headD undef) (s.tail.tail.tail.tail.headD undef) (s.tail.tail.tail.tail.tail.headD undef) (s.tail.tail.tail.tail.tail.tail.headD undef) (s.tail.tail.tail.tail.tail.tail.tail.headD undef) (s.tail.tail.tail.tail.tail.tail.tail.tail.headD undef) (s.tail.tail.tail.tail.tail.tail.tail.tail.tail.headD undef) (s.tail.tail.tail.tail.tail.tail.tail.tail.tail.tail.headD undef) w Kn Kb Kr)
  (fun s w => Fimpl_Mach_shaped.r4 (s.headD undef) (s.tail.headD undef) (s.tail.tail.headD undef) (s.tail.tail.tail.headD undef) (s.tail.tail.tail.tail.headD undef) (s.tail.tail.tail.tail.tail.headD undef) (s.tail.tail.tail.tail.tail.tail.headD undef) (s.tail.tail.tail.tail.tail.tail.tail.headD undef) (s.tail.tail.tail.tail.tail.tail.tail.tail.headD undef) (s.tail.tail.tail.tail.tail.tail.tail.tail.tail.headD undef) (s.tail.tail.tail.tail.tail.tail.tail.tail.tail.tail.headD undef) w Kn Kb Kr)))
  (fadT 1 t7 fun t78 =>
  ldT t78 (w9.drew) fun t79 =>
  lenT t79 fun t80 =>
  loopT (fun s w Kn Kb Kr => Fimpl_Mach_shaped.l5 (s.headD undef) (s.tail.headD undef) (s.tail.tail.headD undef) (s.tail.tail.tail.headD undef) (s.tail.tail.tail.tail.headD undef) (s.tail.tail.tail.tail.tail.headD undef) (s.tail.tail.tail.tail.tail.tail.headD undef) (s.tail.tail.tail.tail.tail.tail.tail.headD undef) (s.tail.tail.tail.tail.tail.tail.tail.tail.headD undef) (s.tail.tail.tail.tail.tail.tail.tail.tail.tail.headD undef) (s.tail.tail.tail.tail.tail.tail.tail.tail.tail.tail.headD undef) w Kn Kb Kr) [x2, x3, x4, x5, x22, x20, x21, x22, t79, t80, (.int .i64 0)] (w9.drew)
  (fun s w => Fimpl_Mach_shaped.k3 (s.headD undef) (s.tail.headD undef) (s.tail.tail.headD undef) (s.tail.tail.tail.headD undef) (s.tail.tail.tail.tail.headD undef) (s.tail.tail.tail.tail.tail.headD undef) (s.tail.tail.tail.tail.tail.tail.headD undef) (s.tail.tail.tail.tail.tail.tail.tail.headD undef) (s.tail.tail.tail.tail.tail.tail.tail.tail.headD undef) (s.tail.tail.tail.tail.tail.tail.tail.tail.tail.headD undef) (s.tail.tail.tail.tail.tail.tail.tail.tail.tail.tail.headD undef) w Kn Kb Kr)
  (fun s w => Fimpl_Mach_shaped.r4 (s.headD undef) (s.tail.headD undef) (s.tail.tail.headD undef) (s.tail.tail.tail.headD undef) (s.tail.tail.tail.tail.headD undef) (s.tail.tail.tail.tail.tail.headD undef) (s.tail.tail.tail.tail.tail.tail.headD undef) (s.tail.tail.tail.tail.tail.tail.tail.headD undef) (s.tail.tail.tail.tail.tail.tail.tail.tail.headD undef) (s.tail.tail.tail.tail.tail.tail.tail.tail.tail.headD undef) (s.tail.tail.tail.tail.tail.tail.tail.tail.tail.tail.headD undef) w Kn Kb Kr)))
  (fadT 1 t7 fun t78 =>
  ldT t78 (w9.drew) fun t79 =>
  lenT t79 fun t80 =>
  loopT (fun s w Kn Kb Kr => Fimpl_Mach_shaped.l6 (s.headD undef) (s.tail.headD undef) (s.tail.tail.headD undef) (s.tail.tail.tail.headD undef) (s.tail.tail.tail.tail.headD undef) (s.tail.tail.tail.tail.tail.headD undef) (s.tail.tail.tail.tail.tail.tail.headD undef) (s.tail.tail.tail.tail.tail.tail.tail.headD undef) (s.tail.tail.tail.tail.tail.tail.tail.tail.headD undef) (s.tail.tail.tail.tail.tail.tail.tail.tail.tail.headD undef) (s.tail.tail.tail.tail.tail.tail.tail.tail.tail.tail.headD undef) w Kn Kb Kr) [x2, x3, x4, x5, x22, x20, x21, x22, t79, t80, (.int .i64 0)] (w9.drew)
  (fun s w => Fimpl_Mach_shaped.k3 (s.headD undef) (s.tail.headD undef) (s.tail.tail.headD undef) (s.tail.tail.tail.headD undef) (s.tail.tail.tail.tail.headD undef) (s.tail.tail.tail.tail.tail.headD undef) (s.tail.tail.tail.tail.tail.tail.headD undef) (s.tail.tail.tail.tail.tail.tail.tail.headD undef) (s.tail.tail.tail.tail.tail.tail.tail.tail.headD undef) (s.tail.tail.tail.tail.tail.tail.tail.tail.tail.headD undef) (s.tail.tail.tail.tail.tail.tail.tail.tail.tail.tail.headD undef) w Kn Kb Kr)
  (fun s w => Fimpl_Mach_shaped.r4 (s.headD undef) (s.tail.headD undef) (s.tail.tail.headD undef) (s.tail.tail.tail.headD undef) (s.tail.tail.tail.tail.headD undef) (s.tail.tail.tail.tail.tail.headD undef) (s.tail.tail.tail.tail.tail.tail.headD undef) (s.tail.tail.tail.tail.tail.tail.tail.headD undef) (s.tail.tail.tail.tail.tail.tail.tail.tail.headD undef) (s.tail.tail.tail.tail.tail.tail.tail.tail.tail.headD undef) (s.tail.tail.tail.tail.tail.tail.tail.tail.tail.tail.headD undef) w Kn Kb Kr)))))
  (ldsT 2 t7 w5 fun t45 =>
  fadT 0 x2 fun t47 =>
  ldT t47 w5 fun t48 =>
  clT PR 180 [t45] w5 fun t46 w25 =>
  (ldT t47 w25 fun u => u = t48) ∧
  binT .gtr t46 t48 fun t49 =>
  condT t49
  (Kr [x2, x3, (.bool false), x5, x20, x21, x22] w25)
  (ldsT 8 x2 w25 fun t52 =>
  fadT 0 t7 fun t53 =>
  ldT t53 w25 fun t54 =>
  clT PR 181 [t52, t54] w25 fun t55 w26 =>
  extT t55 0 fun t56 =>
  extT t55 1 fun t57 =>
  allocT 142 #[(.int .i64 0), (.int .i64 0)] w26 fun t8 w27 =>
  stsT 2 t8 t56 w27 fun w28 =>
  condT t57
  (fadT 0 t8 fun t60 =>
  ldT t60 (w28.drew) fun t61 =>
  binT .geq t61 (.int .i64 0) fun t62 =>
  condT t62
  (fadT 1 t8 fun t65 =>
  ldT t65 (w28.drew) fun t66 =>
  fadT 1 x2 fun t67 =>
  ldT t67 (w28.drew) fun t68 =>
  fadT 0 t8 fun t69 =>
  ldT t69 (w28.drew) fun t70 =>
  ixaT 2 t68 t70 fun t71 =>
  fadT 1 t71 fun t72 =>
  ldT t72 (w28.drew) fun t73 =>
  lenT t73 fun t74 =>
  binT .sub t74 (.int .i64 1) fun t75 =>
  binT .neq t66 t75 fun t76 =>
  condT t76
  (Kr [x2, x3, (.bool false), x5, x20, x21, x22] (w28.drew))
  (fadT 1 t7 fun t78 =>
  ldT t78 (w28.drew) fun t79 =>
  lenT t79 fun t80 =>
  loopT (fun s w Kn Kb Kr => Fimpl_Mach_shaped.l7 (s.headD undef) (s.tail.headD undef) (s.tail.tail.headD undef) (s.tail.tail.tail.headD undef) (s.tail.tail.tail.tail.headD undef) (s.tail.tail.tail.tail.tail.headD undef) (s.tail.tail.tail.tail.tail.tail.headD undef) (s.tail.tail.tail.tail.tail.tail.tail.headD undef) (s.tail.tail.tail.tail.tail.tail.tail.tail.headD undef) (s.tail.tail.tail.tail.tail.tail.tail.tail.tail.headD undef) (s.tail.tail.tail.tail.tail.tail.tail.tail.tail.tail.headD undef) w Kn Kb Kr) [x2, x3, x4, x5, x22, x20, x21, x22, t79, t80, (.int .i64 0)] (w28.drew)
  (fun s w => Fimpl_Mach_shaped.k3 (s.headD undef) (s.tail.headD undef) (s.tail.tail.headD undef) (s.tail.tail.tail.headD undef) (s.tail.tail.tail.tail.headD undef) (s.tail.tail.tail.tail.tail.headD undef) (s.tail.tail.tail.tail.tail.tail.headD undef) (s.tail.tail.tail.tail.tail.tail.tail.headD undef) (s.tail.tail.tail.tail.tail.tail.tail.tail.headD undef) (s.tail.tail.tail.tail.tail.tail.tail.tail.tail.headD undef) (s.tail.tail.tail.tail.tail.tail.tail.tail.tail.tail.headD undef) w Kn Kb Kr)
  (fun s w => Fimpl_Mach_shaped.r4 (s.headD undef) (s.tail.headD undef) (s.tail.tail.headD undef) (s.tail.tail.tail.headD undef) (s.tail.tail.tail.tail.headD undef) (s.tail.tail.tail.tail.tail.headD undef) (s.tail.tail.tail.tail.tail.tail.headD undef) (s.tail.tail.tail.tail.tail.tail.tail.headD undef) (s.tail.tail.tail.tail.tail.tail.tail.tail.headD undef) (s.tail.tail.tail.tail.tail.tail.tail.tail.tail.headD undef) (s.tail.tail.tail.tail.tail.tail.tail.tail.tail.tail.headD undef) w Kn Kb Kr)))
  (fadT 1 t7 fun t78 =>
  ldT t78 (w28.drew) fun t79 =>
  lenT t79 fun t80 =>
  loopT (fun s w Kn Kb Kr => Fimpl_Mach_shaped.l8 (s.headD undef) (s.tail.headD undef) (s.tail.tail.headD undef) (s.tail.tail.tail.headD undef) (s.tail.tail.tail.tail.headD undef) (s.tail.tail.tail.tail.tail.headD undef) (s.tail.tail.tail.tail.tail.tail.headD undef) (s.tail.tail.tail.tail.tail.tail.tail.headD undef) (s.tail.tail.tail.tail.tail.tail.tail.tail.headD undef) (s.tail.tail.tail.tail.tail.tail.tail.tail.tail.headD undef) (s.tail.tail.tail.tail.tail.tail.tail.tail.tail.tail.headD undef) w Kn Kb Kr) [x2, x3, x4, x5, x22, x20, x21, x22, t79, t80, (.int .i64 0)] (w28.drew)
  (fun s w => Fimpl_Mach_shaped.k3 (s.headD undef) (s.tail.headD undef) (s.tail.tail.headD undef) (s.tail.tail.tail.headD undef) (s.tail.tail.tail.tail.headD undef) (s.tail.tail.tail.tail.tail.headD undef) (s.tail.tail.tail.tail.tail.tail.headD undef) (s.tail.tail.tail.tail.tail.tail.tail.headD undef) (s.tail.tail.tail.tail.tail.tail.tail.tail.headD undef) (s.tail.tail.tail.tail.tail.tail.tail.tail.tail.headD undef) (s.tail.tail.tail.tail.tail.tail.tail.tail.tail.tail.headD undef) w Kn Kb Kr)
  (fun s w => Fimpl_Mach_shaped.r4 (s.headD undef) (s.tail.headD undef) (s.tail.tail.headD undef) (s.tail.tail.tail.headD undef) (s.tail.tail.tail.tail.headD undef) (s.tail.tail.tail.tail.tail.headD undef) (s.tail.tail.tail.tail.tail.tail.headD undef) (s.tail.tail.tail.tail.tail.tail.tail.headD undef) (s.tail.tail.tail.tail.tail.tail.tail.tail.headD undef) (s.tail.tail.tail.tail.tail.tail.tail.tail.tail.headD undef) (s.tail.tail.tail.tail.tail.tail.tail.tail.tail.tail.headD undef) w Kn Kb Kr)))
  (fadT 1 t7 fun t78 =>
  ldT t78 (w28.drew) fun t79 =>
  lenT t79 fun t80 =>
  loopT (fun s w Kn Kb Kr => Fimpl_Mach_shaped.l9 (s.headD undef) (s.tail.headD undef) (s.tail.tail.headD undef) (s.tail.tail.tail.headD undef) (s.tail.tail.tail.tail.headD undef) (s.tail.tail.tail.tail.tail.headD undef) (s.tail.tail.tail.tail.tail.tail.headD undef) (s.tail.tail.tail.tail.tail.tail.tail.headD undef) (s.tail.tail.tail.tail.tail.tail.tail.tail.headD undef) (s.tail.tail.tail.tail.tail.tail.tail.tail.tail.headD undef) (s.tail.tail.tail.tail.tail.tail.tail.tail.tail.tail.headD undef) w Kn Kb Kr) [x2, x3, x4, x5, x22, x20, x21, x22, t79, t80, (.int .i64 0)] (w28.drew)
  (fun s w => Fimpl_Mach_shaped.k3 (s.headD undef) (s.tail.headD undef) (s.tail.tail.headD undef) (s.tail.tail.tail.headD undef) (s.tail.tail.tail.tail.headD undef) (s.tail.tail.tail.tail.tail.headD undef) (s.tail.tail.tail.tail.tail.tail.headD undef) (s.tail.tail.tail.tail.tail.tail.tail.headD undef) (s.tail.tail.tail.tail.tail.tail.tail.tail.headD undef) (s.tail.tail.tail.tail.tail.tail.tail.tail.tail.headD undef) (s.tail.tail.tail.tail.tail.tail.tail.tail.tail.tail.headD undef) w Kn Kb Kr)
  (fun s w => Fimpl_Mach_shaped.r4 (s.headD undef) (s.tail.headD undef) (s.tail.tail.headD undef) (s.tail.tail.tail.headD undef) (s.tail.tail.tail.tail.headD undef) (s.tail.tail.tail.tail.tail.headD undef) (s.tail.tail.tail.tail.tail.tail.headD undef) (s.tail.tail.tail.tail.tail.tail.tail.headD undef) (s.tail.tail.tail.tail.tail.tail.tail.tail.headD undef) (s.tail.tail.tail.tail.tail.tail.tail.tail.tail.headD undef) (s.tail.tail.tail.tail.tail.tail.tail.tail.tail.tail.headD undef) w Kn Kb Kr))))))
  (Kb [x2, x3, x4, x5, x20, x21, x22] w)
def Fimpl_Mach_shaped.l11 (x2 x3 x4 x5 x128 x129 x130 : Value) (w : World) (Kn Kb Kr : LW) : Prop := ∀ _ : Env,
  binT .lss x130 x129 fun t131 =>
  condT t131
  (ixaT 8 x128 x130 fun t133 =>
  ldsT 8 t133 w fun t134 =>
  allocT 91 #[(.int .i64 0), (.int .i64 0), (.int .i64 0), (.int .i64 0), (.slice none 0 0), (.slice none 0 0), (.int .i64 0), (.bool false)] w fun t13 w44 =>
  stsT 8 t13 t134 w44 fun w45 =>
  ldsT 8 x2 w45 fun t136 =>
  clT PR 181 [t136, x130] w45 fun t138 w46 =>
  extT t138 0 fun t139 =>
  extT t138 1 fun t140 =>
  allocT 142 #[(.int .i64 0), (.int .i64 0)] w46 fun t14 w47 =>
  stsT 2 t14 t139 w47 fun w48 =>
  notT t140 fun t143 =>
  condT t143
  (Kr [x2, x3, (.bool false), x5, x128, x129, x130] w48)
  (fadT 0 t14 fun t145 =>
  ldT t145 w48 fun t146 =>
  binT .lss t146 (.int .i64 0) fun t147 =>
  condT t147
  (fadT 0 t13 fun t149 =>
  ldT t149 w48 fun t150 =>
  binT .neq t150 (.int .i64 (-1)) fun t151 =>
  condT t151
  (Kr [x2, x3, (.bool false), x5, x128, x129, x130] w48)
  (fadT 1 t13 fun t153 =>
  ldT t153 w48 fun t154 =>
  binT .neq t154 (.int .i64 0) fun t155 =>
  condT t155
  (Kr [x2, x3, (.bool false), x5, x128, x129, x130] w48)
  (fadT 2 t13 fun t158 =>
  ldsT 6 t158 w48 fun t159 =>
  ldsT 1 x3 w48 fun t160 =>
  clT PR 149 [t159, t160, x5] w48 fun t162 w49 =>
  notT t162 fun t163 =>
  condT t163
  (Kr [x2, x3, (.bool false), x5, x128, x129, x130] w49)
  (fadT 0 t14 fun t167 =>
  ldT t167 (w49.drew) fun t168 =>
  binT .geq t168 (.int .i64 0) fun t169 =>
  condT t169
  (fadT 2 t13 fun t171 =>
  ldsT 6 t171 (w49.drew) fun t172 =>
  clT PR 183 [t172] (w49.drew) fun t173 w50 =>
  notT t173 fun t174 =>
  condT t174
  (Kr [x2, x3, (.bool false), x5, x128, x129, x130] w50)
  (fadT 1 x2 fun t176 =>
  ldT t176 w50 fun t177 =>
  fadT 0 t14 fun t178 =>
  ldT t178 w50 fun t179 =>
  ixaT 2 t177 t179 fun t180 =>
  fadT 1 t180 fun t181 =>
  ldT t181 w50 fun t182 =>
  fadT 1 t14 fun t183 =>
  ldT t183 w50 fun t184 =>
  ixaT 5 t182 t184 fun t185 =>
  fadT 2 t185 fun t186 =>
  ldT t186 w50 fun t187 =>
  binT .neq t187 x130 fun t189 =>
  condT t189
  (Kr [x2, x3, (.bool false), x5, x128, x129, x130] w50)
  (binT .add x130 (.int .i64 1) fun t192 =>
  Kn [x2, x3, x4, x5, x128, x129, t192] w50)))
  (binT .add x130 (.int .i64 1) fun t192 =>
  Kn [x2, x3, x4, x5, x128, x129, t192] (w49.drew))))))
  (fadT 0 t14 fun t167 =>
  ldT t167 (w48.drew) fun t168 =>
  binT .geq t168 (.int .i64 0) fun t169 =>
  condT t169
  (fadT 2 t13 fun t171 =>
  ldsT 6 t171 (w48.drew) fun t172 =>
  clT PR 183 [t172] (w48.drew) fun t173 w51 =>
  notT t173 fun t174 =>
  condT t174
  (Kr [x2, x3, (.bool false), x5, x128, x129, x130] w51)
  (fadT 1 x2 fun t176 =>
  ldT t176 w51 fun t177 =>
  fadT 0 t14 fun t178 =>
  ldT t178 w51 fun t179 =>
  ixaT 2 t177 t179 fun t180 =>
  fadT 1 t180 fun t181 =>
  ldT t181 w51 fun t182 =>
  fadT 1 t14 fun t183 =>
  ldT t183 w51 fun t184 =>
  ixaT 5 t182 t184 fun t185 =>
  fadT 2 t185 fun t186 =>
  ldT t186 w51 fun t187 =>
  binT .neq t187 x130 fun t189 =>
  condT t189
  (Kr [x2, x3, (.bool false), x5, x128, x129, x130] w51)
  (binT .add x130 (.int .i64 1) fun t192 =>
  Kn [x2, x3, x4, x5, x128, x129, t192] w51)))
  (binT .add x130 (.int .i64 1) fun t192 =>
  Kn [x2, x3, x4, x5, x128, x129, t192] (w48.drew)))))
  (Kb [x2, x3, x4, x5, x128, x129, x130] w)
def Fimpl_Mach_shaped.k12 (x2 x3 x4 x5 x128 x129 x130 : Value) (w : World) (R : VW) : Prop := ∀ _ : Env,
  R (.bool true) w
def Fimpl_Mach_shaped.r13 (x2 x3 x4 x5 x128 x129 x130 : Value) (w : World) (R : VW) : Prop := ∀ _ : Env,
  R x4 w
def Fimpl_Mach_shaped.k10 (x2 x3 x4 x5 x20 x21 x22 : Value) (w : World) (R : VW) : Prop := ∀ _ : Env,
  fadT 4 x2 fun t127 =>
  ldT t127 w fun t128 =>
  lenT t128 fun t129 =>
  loopT (fun s w Kn Kb Kr => Fimpl_Mach_shaped.l11 (s.headD undef) (s.tail.headD undef) (s.tail.tail.headD undef) (s.tail.tail.tail.headD undef) (s.tail.tail.tail.tail.headD undef) (s.tail.tail.tail.tail.tail.headD undef) (s.tail.tail.tail.tail.tail.tail.headD undef) w Kn Kb Kr) [x2, x3, x4, x5, t128, t129, (.int .i64 0)] w
  (fun s w => Fimpl_Mach_shaped.k12 (s.headD undef) (s.tail.headD undef) (s.tail.tail.headD undef) (s.tail.tail.tail.headD undef) (s.tail.tail.tail.tail.headD undef) (s.tail.tail.tail.tail.tail.headD undef) (s.tail.tail.tail.tail.tail.tail.headD undef) w R)
  (fun s w => Fimpl_Mach_shaped.r13 (s.headD undef) (s.tail.headD undef) (s.tail.tail.headD undef) (s.tail.tail.tail.headD undef) (s.tail.tail.tail.tail.headD undef) (s.tail.tail.tail.tail.tail.headD undef) (s.tail.tail.tail.tail.tail.tail.headD undef) w R)
def Fimpl_Mach_shaped.r14 (x2 x3 x4 x5 x20 x21 x22 : Value) (w : World) (R : VW) : Prop := ∀ _ : Env,
  R x4 w
def Fimpl_Mach_shaped (t0 t1 : Value) (w : World) (R : VW) : Prop :=
  boxT 37 t0 w fun t2 w1 =>
  boxT 42 t1 w1 fun t3 w2 =>
  fadT 4 t2 fun t16 =>
  ldT t16 w2 fun t17 =>
  lenT t17 fun t18 =>
  fadT 1 t2 fun t19 =>
  ldT t19 w2 fun t20 =>
  lenT t20 fun t21 =>
  loopT (fun s w Kn Kb Kr => Fimpl_Mach_shaped.l1 (s.headD undef) (s.tail.headD undef) (s.tail.tail.headD undef) (s.tail.tail.tail.headD undef) (s.tail.tail.tail.tail.headD undef) (s.tail.tail.tail.tail.tail.headD undef) (s.tail.tail.tail.tail.tail.tail.headD undef) w Kn Kb Kr) [t2, t3, (.bool false), t18, t20, t21, (.int .i64 0)] w2
  (fun s w => Fimpl_Mach_shaped.k10 (s.headD undef) (s.tail.headD undef) (s.tail.tail.headD undef) (s.tail.tail.tail.headD undef) (s.tail.tail.tail.tail.headD undef) (s.tail.tail.tail.tail.tail.headD undef) (s.tail.tail.tail.tail.tail.tail.headD undef) w R)
  (fun s w => Fimpl_Mach_shaped.r14 (s.headD undef) (s.tail.headD undef) (s.tail.tail.headD undef) (s.tail.tail.tail.headD undef) (s.tail.tail.tail.tail.headD undef) (s.tail.tail.tail.tail.tail.headD undef) (s.tail.tail.tail.tail.tail.tail.headD undef) w R)
def Fimpl_Mach_shaped.H : Hints := {draw := fun i => match i with | 5 => { T := [0, 1, 0, 4, 15, 31, 63, 127, 255, 511, 1023, 2047, 4095, 8191, 16383, 32767, 65535, 131071, 262143, 524287, 262143, 1310719, 4194303, 8388607] } | 8 => { T := [0, 1, 3, 7, 15, 31, 63, 127, 255, 127, 639, 127, 2175, 7807, 15999, 32383, 65151, 130687, 262143, 524287] } | 13 => { T := [0, 1, 0, 0, 15, 31, 63, 127, 255, 127, 639, 2047, 4095, 8191] } | 27 => { T := [0, 1, 3, 7, 15, 31, 63, 127, 255, 511, 1023, 511, 2559, 8191, 16383, 32767, 511, 66047, 262143, 524287, 1048575, 511, 4194303, 8388607, 16777215, 33554431] } | _ => {}, loop := fun i => match i with | 3 => some (0, [2, 3, 4, 5, 20, 21, 22]) | 11 => some (2, [2, 3, 4, 5, 6, 20, 21, 22, 79, 80, 81]) | 20 => some (4, [2, 3, 4, 5, 128, 129, 130]) | _ => none}
theorem Fimpl_Mach_shaped.eq (t0 t1 : Value) : trF PR CX Fimpl_Mach_shaped.H Tryz.f112 [t0, t1] = Fimpl_Mach_shaped t0 t1 := by kernel_rfl
theorem Fimpl_Mach_shaped.cl {t0 t1 : Value} {w : World} {R : VW} (h : Fimpl_Mach_shaped t0 t1 w R) : clT PR 112 [t0, t1] w R := cl_of_tr (H := Fimpl_Mach_shaped.H) ctxOk Tryz.func112 rfl (by rw [Fimpl_Mach_shaped.eq]; exact h)
def Fimpl_Mach_chained.l1 (x1 x2 x3 x13 x14 x15 : Value) (w : World) (Kn Kb Kr : LW) : Prop := ∀ _ : Env,
  binT .lss x15 x14 fun t16 =>
  condT t16
  (ixaT 8 x13 x15 fun t17 =>
  ldsT 8 t17 w fun t18 =>
  allocT 91 #[(.int .i64 0), (.int .i64 0), (.int .i64 0), (.int .i64 0), (.slice none 0 0), (.slice none 0 0), (.int .i64 0), (.bool false)] w fun t5 w3 =>
  stsT 8 t5 t18 w3 fun w4 =>
  fadT 0 t5 fun t19 =>
  ldT t19 w4 fun t20 =>
  binT .eql t20 (.int .i64 (-1)) fun t21 =>
  condT t21
  (fadT 2 t5 fun t23 =>
  fadT 5 t23 fun t24 =>
  ldT t24 w4 fun t25 =>
  notT t25 fun t26 =>
  condT t26
  (binT .add x3 (.int .i64 1) fun t29 =>
  binT .add x15 (.int .i64 1) fun t30 =>
  Kn [x1, x2, t29, x13, x14, t30] w4)
  (binT .add x15 (.int .i64 1) fun t30 =>
  Kn [x1, x2, x3, x13, x14, t30] w4))
  (binT .add x15 (.int .i64 1) fun t30 =>
  Kn [x1, x2, x3, x13, x14, t30] w4))
  (Kb [x1, x2, x3, x13, x14, x15] w)
def Fimpl_Mach_chained.l3 (x1 x2 x3 x6 x7 x8 : Value) (w : World) (Kn Kb Kr : LW) : Prop := ∀ _ : Env,
  condT x7
  (ldsT 8 x1 w fun t37 =>
  ldsT 2 x6 w fun t38 =>
  clT PR 118 [t37, t38] w fun t39 w8 =>
  allocT 89 #[(.int .i64 0), (.int .i64 0), (.slice none 0 0), (.slice none 0 0), (.int .i64 0), (.bool false)] w8 fun t9 w9 =>
  stsT 6 t9 t39 w9 fun w10 =>
  binT .sub x3 (.int .i64 1) fun t41 =>
  binT .lss t41 (.int .i64 0) fun t43 =>
  condT t43
  (Kr [x1, (.bool false), t41, x6, x7, x8] w10)
  (fadT 5 t9 fun t45 =>
  ldT t45 w10 fun t46 =>
  condT t46
  (Kr [x1, (.bool false), t41, x6, x7, x8] w10)
  (notT x8 fun t50 =>
  condT t50
  (fadT 3 t9 fun t52 =>
  ldT t52 w10 fun t53 =>
  lenT t53 fun t54 =>
  binT .eql t54 (.int .i64 6) fun t55 =>
  condT t55
  (Kr [x1, (.bool false), t41, x6, x7, x8] w10)
  (ldsT 8 x1 w10 fun t59 =>
  ldsT 2 x6 w10 fun t60 =>
  clT PR 184 [t59, t60] w10 fun t61 w11 =>
  extT t61 0 fun t62 =>
  extT t61 1 fun t63 =>
  extT t61 2 fun t64 =>
  stsT 2 x6 t62 w11 fun w12 =>
  Kn [x1, x2, t41, x6, t63, (.bool false)] w12))
  (ldsT 8 x1 w10 fun t59 =>
  ldsT 2 x6 w10 fun t60 =>
  clT PR 184 [t59, t60] w10 fun t61 w13 =>
  extT t61 0 fun t62 =>
  extT t61 1 fun t63 =>
  extT t61 2 fun t64 =>
  stsT 2 x6 t62 w13 fun w14 =>
  Kn [x1, x2, t41, x6, t63, (.bool false)] w14))))
  (Kb [x1, x2, x3, x6, x7, x8] w)
def Fimpl_Mach_chained.k4 (x1 x2 x3 x6 x7 x8 : Value) (w : World) (R : VW) : Prop := ∀ _ : Env,
  binT .eql x3 (.int .i64 0) fun t66 =>
  R t66 w
def Fimpl_Mach_chained.r5 (x1 x2 x3 x6 x7 x8 : Value) (w : World) (R : VW) : Prop := ∀ _ : Env,
  R x2 w
def Fimpl_Mach_chained.k2 (x1 x2 x3 x13 x14 x15 : Value) (w : World) (R : VW) : Prop := ∀ _ : Env,
  ldsT 8 x1 w fun t32 =>
  clT PR 114 [t32] w fun t33 w5 =>
  extT t33 0 fun t34 =>
  extT t33 1 fun t35 =>
  allocT 142 #[(.int .i64 0), (.int .i64 0)] w5 fun t6 w6 =>
  stsT 2 t6 t34 w6 fun w7 =>
  loopT (fun s w Kn Kb Kr => Fimpl_Mach_chained.l3 (s.headD undef) (s.tail.headD undef) (s.tail.tail.headD undef) (s.tail.tail.tail.headD undef) (s.tail.tail.tail.tail.headD undef) (s.tail.tail.tail.tail.tail.headD undef) w Kn Kb Kr) [x1, x2, x3, t6, t35, (.bool true)] w7
  (fun s w => Fimpl_Mach_chained.k4 (s.headD undef) (s.tail.headD undef) (s.tail.tail.headD undef) (s.tail.tail.tail.headD undef) (s.tail.tail.tail.tail.headD undef) (s.tail.tail.tail.tail.tail.headD undef) w R)
  (fun s w => Fimpl_Mach_chained.r5 (s.headD undef) (s.tail.headD undef) (s.tail.tail.headD undef) (s.tail.tail.tail.headD undef) (s.tail.tail.tail.tail.headD undef) (s.tail.tail.tail.tail.tail.headD undef) w R)
def Fimpl_Mach_chained.r6 (x1 x2 x3 x13 x14 x15 : Value) (w : World) (R : VW) : Prop := ∀ _ : Env,
  R x2 w
def Fimpl_Mach_chained (t0 : Value) (w : World) (R : VW) : Prop :=
  boxT 37 t0 w fun t1 w1 =>
  ldsT 8 t1 w1 fun t10 =>
  clT PR 41 [t10] w1 fun t11 w2 =>
  fadT 4 t1 fun t12 =>
  ldT t12 w2 fun t13 =>
  lenT t13 fun t14 =>
  loopT (fun s w Kn Kb Kr => Fimpl_Mach_chained.l1 (s.headD undef) (s.tail.headD undef) (s.tail.tail.headD undef) (s.tail.tail.tail.headD undef) (s.tail.tail.tail.tail.headD undef) (s.tail.tail.tail.tail.tail.headD undef) w Kn Kb Kr) [t1, (.bool false), t11, t13, t14, (.int .i64 0)] w2
  (fun s w => Fimpl_Mach_chained.k2 (s.headD undef) (s.tail.headD undef) (s.tail.tail.headD undef) (s.tail.tail.tail.headD undef) (s.tail.tail.tail.tail.headD undef) (s.tail.tail.tail.tail.tail.headD undef) w R)
  (fun s w => Fimpl_Mach_chained.r6 (s.headD undef) (s.tail.headD undef) (s.tail.tail.headD undef) (s.tail.tail.tail.headD undef) (s.tail.tail.tail.tail.headD undef) (s.tail.tail.tail.tail.tail.headD undef) w R)
def Fimpl_Mach_chained.H : Hints := {loop := fun i => match i with | 3 => some (0, [1, 2, 3, 13, 14, 15]) | 10 => some (2, [1, 2, 3, 6, 7, 8]) | _ => none}
theorem Fimpl_Mach_chained.eq (t0 : Value) : trF PR CX Fimpl_Mach_chained.H Tryz.f113 [t0] = Fimpl_Mach_chained t0 := by kernel_rfl
theorem Fimpl_Mach_chained.cl {t0 : Value} {w : World} {R : VW} (h : Fimpl_Mach_chained t0 w R) : clT PR 113 [t0] w R := cl_of_tr (H := Fimpl_Mach_chained.H) ctxOk Tryz.func113 rfl (by rw [Fimpl_Mach_chained.eq]; exact h)
def Fimpl_Mach_top (t0 : Value) (w : World) (R : VW) : Prop :=
  boxT 37 t0 w fun t1 w1 =>
  allocT 142 #[(.int .i64 0), (.int .i64 0)] w1 fun t2 w2 =>
  fadT 3 t1 fun t5 =>
  ldT t5 w2 fun t6 =>
  fadT 1 t1 fun t7 =>
  ldT t7 w2 fun t8 =>
  lenT t8 fun t9 =>
  binT .sub t9 (.int .i64 1) fun t10 =>
  clT PR 121 [t6, (.int .i64 0), t10] w2 fun t11 w3 =>
  notT t11 fun t12 =>
  condT t12
  (bldT #[(.int .i64 0), (.int .i64 0)] [] fun t13 =>
  stsT 2 t2 t13 w3 fun w4 =>
  ldsT 2 t2 w4 fun r5 =>
  R (.tuple #[r5, (.bool false)]) w4)
  (fadT 1 t1 fun t14 =>
  ldT t14 w3 fun t15 =>
  fadT 3 t1 fun t16 =>
  ldT t16 w3 fun t17 =>
  ixaT 2 t15 t17 fun t18 =>
  fadT 1 t18 fun t19 =>
  ldT t19 w3 fun t20 =>
  lenT t20 fun t21 =>
  binT .sub t21 (.int .i64 1) fun t22 =>
  fadT 3 t1 fun t23 =>
  ldT t23 w3 fun t24 =>
  bldT #[(.int .i64 0), (.int .i64 0)] [(0, 1, t24), (1, 1, t22)] fun t26 =>
  binT .geq t22 (.int .i64 0) fun t28 =>
  stsT 2 t2 t26 w3 fun w6 =>
  ldsT 2 t2 w6 fun r7 =>
  R (.tuple #[r7, t28]) w6)
def Fimpl_Mach_top.H : Hints := {}
theorem Fimpl_Mach_top.eq (t0 : Value) : trF PR CX Fimpl_Mach_top.H Tryz.f114 [t0] = Fimpl_Mach_top t0 := by kernel_rfl
theorem Fimpl_Mach_top.cl {t0 : Value} {w : World} {R : VW} (h : Fimpl_Mach_top t0 w R) : clT PR 114 [t0] w R := cl_of_tr (H := Fimpl_Mach_top.H) ctxOk Tryz.func114 rfl (by rw [Fimpl_Mach_top.eq]; exact h)
def Fimpl_Mach_there.l2 (x1 x2 x3 x17 x18 x19 x29 x30 x31 : Value) (w : World) (Kn Kb Kr : LW) : Prop := ∀ _ : Env,
  binT .lss x31 x30 fun t32 =>
  condT t32
  (ixaT 5 x29 x31 fun t33 =>
  ldsT 5 t33 w fun t34 =>
  allocT 162 #[(.int .i64 0), (.int .i64 0), (.int .i64 0), (.slice none 0 0), (.slice none 0 0)] w fun t7 w5 =>
  stsT 5 t7 t34 w5 fun w6 =>
  fadT 2 t7 fun t35 =>
  ldT t35 w6 fun t36 =>
  clT PR 121 [t36, (.int .i64 (-1)), x3] w6 fun t38 w7 =>
  notT t38 fun t39 =>
  condT t39
  (Kr [x1, (.bool false), x3, x17, x18, x19, x29, x30, x31] w7)
  (ldsT 8 x1 w7 fun t41 =>
  fadT 3 t7 fun t42 =>
  ldT t42 w7 fun t43 =>
  fadT 4 t7 fun t44 =>
  ldT t44 w7 fun t45 =>
  bslT 35 2 1 #[(.slice none 0 0)] [(0, 1, t43), (1, 1, t45)] w7 fun t46 w8 =>
  clT PR 185 [t41, t46] w8 fun t47 w9 =>
  notT t47 fun t48 =>
  condT t48
  (Kr [x1, (.bool false), x3, x17, x18, x19, x29, x30, x31] w9)
  (binT .add x31 (.int .i64 1) fun t50 =>
  Kn [x1, x2, x3, x17, x18, x19, x29, x30, t50] w9)))
  (Kb [x1, x2, x3, x17, x18, x19, x29, x30, x31] w)
def Fimpl_Mach_there.k3 (x1 x2 x3 x17 x18 x19 x29 x30 x31 : Value) (w : World) (Kn Kb Kr : LW) : Prop := ∀ _ : Env,
  binT .add x19 (.int .i64 1) fun t51 =>
  Kn [x1, x2, x3, x17, x18, t51] w
def Fimpl_Mach_there.r4 (x1 x2 x3 x17 x18 x19 x29 x30 x31 : Value) (w : World) (Kn Kb Kr : LW) : Prop := ∀ _ : Env,
  Kr [x1, x2, x3, x17, x18, x19] w
def Fimpl_Mach_there.l1 (x1 x2 x3 x17 x18 x19 : Value) (w : World) (Kn Kb Kr : LW) : Prop := ∀ _ : Env,
  binT .lss x19 x18 fun t20 =>
  condT t20
  (ixaT 2 x17 x19 fun t21 =>
  ldsT 2 t21 w fun t22 =>
  allocT 116 #[(.int .i64 0), (.slice none 0 0)] w fun t5 w2 =>
  stsT 2 t5 t22 w2 fun w3 =>
  fadT 0 t5 fun t23 =>
  ldT t23 w3 fun t24 =>
  clT PR 121 [t24, (.int .i64 (-1)), x3] w3 fun t26 w4 =>
  notT t26 fun t27 =>
  condT t27
  (Kr [x1, (.bool false), x3, x17, x18, x19] w4)
  (fadT 1 t5 fun t28 =>
  ldT t28 w4 fun t29 =>
  lenT t29 fun t30 =>
  loopT (fun s w Kn Kb Kr => Fimpl_Mach_there.l2 (s.headD undef) (s.tail.headD undef) (s.tail.tail.headD undef) (s.tail.tail.tail.headD undef) (s.tail.tail.tail.tail.headD undef) (s.tail.tail.tail.tail.tail.headD undef) (s.tail.tail.tail.tail.tail.tail.headD undef) (s.tail.tail.tail.tail.tail.tail.tail.headD undef) (s.tail.tail.tail.tail.tail.tail.tail.tail.headD undef) w Kn Kb Kr) [x1, x2, x3, x17, x18, x19, t29, t30, (.int .i64 0)] w4
  (fun s w => Fimpl_Mach_there.k3 (s.headD undef) (s.tail.headD undef) (s.tail.tail.headD undef) (s.tail.tail.tail.headD undef) (s.tail.tail.tail.tail.headD undef) (s.tail.tail.tail.tail.tail.headD undef) (s.tail.tail.tail.tail.tail.tail.headD undef) (s.tail.tail.tail.tail.tail.tail.tail.headD undef) (s.tail.tail.tail.tail.tail.tail.tail.tail.headD undef) w Kn Kb Kr)
  (fun s w => Fimpl_Mach_there.r4 (s.headD undef) (s.tail.headD undef) (s.tail.tail.headD undef) (s.tail.tail.tail.headD undef) (s.tail.tail.tail.tail.headD undef) (s.tail.tail.tail.tail.tail.headD undef) (s.tail.tail.tail.tail.tail.tail.headD undef) (s.tail.tail.tail.tail.tail.tail.tail.headD undef) (s.tail.tail.tail.tail.tail.tail.tail.tail.headD undef) w Kn Kb Kr)))
  (Kb [x1, x2, x3, x17, x18, x19] w)
def Fimpl_Mach_there.l6 (x1 x2 x3 x53 x54 x55 : Value) (w : World) (Kn Kb Kr : LW) : Prop := ∀ _ : Env,
  binT .lss x55 x54 fun t56 =>
  condT t56
  (ixaT 8 x53 x55 fun t58 =>
  ldsT 8 t58 w fun t59 =>
  allocT 91 #[(.int .i64 0), (.int .i64 0), (.int .i64 0), (.int .i64 0), (.slice none 0 0), (.slice none 0 0), (.int .i64 0), (.bool false)] w fun t9 w10 =>
  stsT 8 t9 t59 w10 fun w11 =>
  ldsT 8 x1 w11 fun t61 =>
  clT PR 181 [t61, x55] w11 fun t63 w12 =>
  extT t63 0 fun t64 =>
  extT t63 1 fun t65 =>
  allocT 142 #[(.int .i64 0), (.int .i64 0)] w12 fun t10 w13 =>
  stsT 2 t10 t64 w13 fun w14 =>
  notT t65 fun t67 =>
  condT t67
  (Kr [x1, (.bool false), x3, x53, x54, x55] w14)
  (fadT 2 t9 fun t69 =>
  fadT 4 t69 fun t70 =>
  ldT t70 w14 fun t71 =>
  clT PR 121 [t71, (.int .i64 (-1)), x3] w14 fun t73 w15 =>
  notT t73 fun t74 =>
  condT t74
  (Kr [x1, (.bool false), x3, x53, x54, x55] w15)
  (ldsT 8 x1 w15 fun t77 =>
  fadT 2 t9 fun t78 =>
  fadT 2 t78 fun t79 =>
  ldT t79 w15 fun t80 =>
  fadT 2 t9 fun t81 =>
  fadT 3 t81 fun t82 =>
  ldT t82 w15 fun t83 =>
  bslT 35 2 1 #[(.slice none 0 0)] [(0, 1, t80), (1, 1, t83)] w15 fun t84 w16 =>
  clT PR 185 [t77, t84] w16 fun t85 w17 =>
  notT t85 fun t86 =>
  condT t86
  (Kr [x1, (.bool false), x3, x53, x54, x55] w17)
  (binT .add x55 (.int .i64 1) fun t88 =>
  Kn [x1, x2, x3, x53, x54, t88] w17))))
  (Kb [x1, x2, x3, x53, x54, x55] w)
def Fimpl_Mach_there.k7 (x1 x2 x3 x53 x54 x55 : Value) (w : World) (R : VW) : Prop := ∀ _ : Env,
  R (.bool true) w
def Fimpl_Mach_there.r8 (x1 x2 x3 x53 x54 x55 : Value) (w : World) (R : VW) : Prop := ∀ _ : Env,
  R x2 w
def Fimpl_Mach_there.k5 (x1 x2 x3 x17 x18 x19 : Value) (w : World) (R : VW) : Prop := ∀ _ : Env,
  fadT 4 x1 fun t52 =>
  ldT t52 w fun t53 =>
  lenT t53 fun t54 =>
  loopT (fun s w Kn Kb Kr => Fimpl_Mach_there.l6 (s.headD undef) (s.tail.headD undef) (s.tail.tail.headD undef) (s.tail.tail.tail.headD undef) (s.tail.tail.tail.tail.headD undef) (s.tail.tail.tail.tail.tail.headD undef) w Kn Kb Kr) [x1, x2, x3, t53, t54, (.int .i64 0)] w
  (fun s w => Fimpl_Mach_there.k7 (s.headD undef) (s.tail.headD undef) (s.tail.tail.headD undef) (s.tail.tail.tail.headD undef) (s.tail.tail.tail.tail.headD undef) (s.tail.tail.tail.tail.tail.headD undef) w R)
  (fun s w => Fimpl_Mach_there.r8 (s.headD undef) (s.tail.headD undef) (s.tail.tail.headD undef) (s.tail.tail.tail.headD undef) (s.tail.tail.tail.tail.headD undef) (s.tail.tail.tail.tail.tail.headD undef) w R)
def Fimpl_Mach_there.r9 (x1 x2 x3 x17 x18 x19 : Value) (w : World) (R : VW) : Prop := ∀ _ : Env,
  R x2 w
def Fimpl_Mach_there (t0 : Value) (w : World) (R : VW) : Prop :=
  boxT 37 t0 w fun t1 w1 =>
  fadT 4 t1 fun t12 =>
  ldT t12 w1 fun t13 =>
  lenT t13 fun t14 =>
  binT .sub t14 (.int .i64 1) fun t15 =>
  fadT 1 t1 fun t16 =>
  ldT t16 w1 fun t17 =>
  lenT t17 fun t18 =>
  loopT (fun s w Kn Kb Kr => Fimpl_Mach_there.l1 (s.headD undef) (s.tail.headD undef) (s.tail.tail.headD undef) (s.tail.tail.tail.headD undef) (s.tail.tail.tail.tail.headD undef) (s.tail.tail.tail.tail.tail.headD undef) w Kn Kb Kr) [t1, (.bool false), t15, t17, t18, (.int .i64 0)] w1
  (fun s w => Fimpl_Mach_there.k5 (s.headD undef) (s.tail.headD undef) (s.tail.tail.headD undef) (s.tail.tail.tail.headD undef) (s.tail.tail.tail.tail.headD undef) (s.tail.tail.tail.tail.tail.headD undef) w R)
  (fun s w => Fimpl_Mach_there.r9 (s.headD undef) (s.tail.headD undef) (s.tail.tail.headD undef) (s.tail.tail.tail.headD undef) (s.tail.tail.tail.tail.headD undef) (s.tail.tail.tail.tail.tail.headD undef) w R)
def Fimpl_Mach_there.H : Hints := {loop := fun i => match i with | 3 => some (0, [1, 2, 3, 17, 18, 19]) | 8 => some (2, [1, 2, 3, 17, 18, 19, 29, 30, 31]) | 15 => some (4, [1, 2, 3, 53, 54, 55]) | _ => none}
theorem Fimpl_Mach_there.eq (t0 : Value) : trF PR CX Fimpl_Mach_there.H Tryz.f115 [t0] = Fimpl_Mach_there t0 := by kernel_rfl
theorem Fimpl_Mach_there.cl {t0 : Value} {w : World} {R : VW} (h : Fimpl_Mach_there t0 w R) : clT PR 115 [t0] w R := cl_of_tr (H := Fimpl_Mach_there.H) ctxOk Tryz.func115 rfl (by rw [Fimpl_Mach_there.eq]; exact h)
def Fimpl_viewer_see (t0 t1 : Value) (w : World) (R : VW) : Prop :=
  boxT 142 t1 w fun t3 w1 =>
  nilT PR t0 fun t9 =>
  fadT 8 t9 fun t10 =>
  ldT t10 (w1.drew) fun t11 =>
  ldsT 2 t3 (w1.drew) fun t12 =>
  opT PR (Instr.lookup 146 t11 t12 true) (w1.drew) fun t13 w2 =>
  extT t13 0 fun t14 =>
  extT t13 1 fun t15 =>
  notT t15 fun t17 =>
  condT t17
  (nilT PR t0 fun t19 =>
  fadT 9 t19 fun t20 =>
  ldT t20 w2 fun t21 =>
  lenT t21 fun t22 =>
  nilT PR t0 fun t24 =>
  fadT 8 t24 fun t25 =>
  ldT t25 (w2.drew) fun t26 =>
  ldsT 2 t3 (w2.drew) fun t27 =>
  opU PR (Instr.mapUpdate 146 t26 t27 t22) (w2.drew) fun w3 =>
  nilT PR t0 fun t31 =>
  fadT 9 t31 fun t32 =>
  ldT t32 (w3.drew) fun t33 =>
  ldsT 2 t3 (w3.drew) fun t34 =>
  bslT 142 1 2 #[(.int .i64 0), (.int .i64 0)] [(0, 2, t34)] (w3.drew) fun t35 w4 =>
  (ldT t32 w4 fun u => u = t33) ∧
  opT PR (Builtin.append_ #[147, 147] 147 #[t33, t35]) w4 fun t36 w5 =>
  nilT PR t0 fun t37 =>
  fadT 9 t37 fun t38 =>
  stT t38 t36 w5 fun w6 =>
  R t22 w6)
  (R t14 w2)
def Fimpl_viewer_see.H : Hints := {draw := fun i => match i with | 1 => { T := [0, 1, 3, 7, 0, 31, 63, 127, 127, 255, 1023] } | 4 => { T := [0, 1, 3, 7, 0, 0, 63] } | 5 => { T := [0, 0, 2, 6, 14, 0, 32, 126, 255, 511, 1023] } | _ => {}}
theorem Fimpl_viewer_see.eq (t0 t1 : Value) : trF PR CX Fimpl_viewer_see.H Tryz.f116 [t0, t1] = Fimpl_viewer_see t0 t1 := by kernel_rfl
theorem Fimpl_viewer_see.cl {t0 t1 : Value} {w : World} {R : VW} (h : Fimpl_viewer_see t0 t1 w R) : clT PR 116 [t0, t1] w R := cl_of_tr (H := Fimpl_viewer_see.H) ctxOk Tryz.func116 rfl (by rw [Fimpl_viewer_see.eq]; exact h)
def Fimpl_Mach_told (t0 t1 : Value) (w : World) (R : VW) : Prop :=
  boxT 37 t0 w fun t2 w1 =>
  boxT 142 t1 w1 fun t3 w2 =>
  allocT 142 #[(.int .i64 0), (.int .i64 0)] w2 fun t4 w3 =>
  fadT 0 t3 fun t8 =>
  ldT t8 w3 fun t9 =>
  binT .lss t9 (.int .i64 0) fun t10 =>
  condT t10
  (ldsT 2 t3 w3 fun t11 =>
  stsT 2 t4 t11 w3 fun w4 =>
  ldsT 2 t4 w4 fun r5 =>
  R r5 w4)
  (fadT 1 t2 fun t12 =>
  ldT t12 (w3.drew) fun t13 =>
  fadT 0 t3 fun t14 =>
  ldT t14 (w3.drew) fun t15 =>
  ixaT 2 t13 t15 fun t16 =>
  fadT 1 t16 fun t17 =>
  ldT t17 (w3.drew) fun t18 =>
  fadT 1 t3 fun t19 =>
  ldT t19 (w3.drew) fun t20 =>
  ixaT 5 t18 t20 fun t21 =>
  fadT 2 t21 fun t22 =>
  ldT t22 (w3.drew) fun t23 =>
  binT .lss t23 (.int .i64 0) fun t25 =>
  condT t25
  (ldsT 2 t3 (w3.drew) fun t26 =>
  stsT 2 t4 t26 (w3.drew) fun w6 =>
  ldsT 2 t4 w6 fun r7 =>
  R r7 w6)
  (ldsT 8 t2 (w3.drew) fun t28 =>
  clT PR 181 [t28, t23] (w3.drew) fun t30 w8 =>
  extT t30 0 fun t31 =>
  extT t30 1 fun t32 =>
  allocT 142 #[(.int .i64 0), (.int .i64 0)] w8 fun t6 w9 =>
  stsT 2 t6 t31 w9 fun w10 =>
  ldsT 2 t6 w10 fun t33 =>
  stsT 2 t4 t33 w10 fun w11 =>
  ldsT 2 t4 w11 fun r12 =>
  R r12 w11))
def Fimpl_Mach_told.H : Hints := {draw := fun i => match i with | 3 => { T := [0, 1, 0, 4, 15, 31, 63, 0, 128, 511, 1023, 2047, 4095] } | _ => {}}
theorem Fimpl_Mach_told.eq (t0 t1 : Value) : trF PR CX Fimpl_Mach_told.H Tryz.f117 [t0, t1] = Fimpl_Mach_told t0 t1 := by kernel_rfl
theorem Fimpl_Mach_told.cl {t0 t1 : Value} {w : World} {R : VW} (h : Fimpl_Mach_told t0 t1 w R) : clT PR 117 [t0, t1] w R := cl_of_tr (H := Fimpl_Mach_told.H) ctxOk Tryz.func117 rfl (by rw [Fimpl_Mach_told.eq]; exact h)
def Fimpl_Mach_callAt (t0 t1 : Value) (w : World) (R : VW) : Prop :=
  boxT 37 t0 w fun t2 w1 =>
  boxT 142 t1 w1 fun t3 w2 =>
  allocT 89 #[(.int .i64 0), (.int .i64 0), (.slice none 0 0), (.slice none 0 0), (.int .i64 0), (.bool false)] w2 fun t4 w3 =>
  fadT 0 t3 fun t5 =>
  ldT t5 w3 fun t6 =>
  binT .lss t6 (.int .i64 0) fun t7 =>
  condT t7
  (fadT 4 t2 fun t8 =>
  ldT t8 w3 fun t9 =>
  fadT 1 t3 fun t10 =>
  ldT t10 w3 fun t11 =>
  ixaT 8 t9 t11 fun t12 =>
  fadT 2 t12 fun t13 =>
  ldsT 6 t13 w3 fun t14 =>
  stsT 6 t4 t14 w3 fun w4 =>
  ldsT 6 t4 w4 fun r5 =>
  R r5 w4)
  (fadT 1 t2 fun t15 =>
  ldT t15 (w3.drew) fun t16 =>
  fadT 0 t3 fun t17 =>
  ldT t17 (w3.drew) fun t18 =>
  ixaT 2 t16 t18 fun t19 =>
  fadT 1 t19 fun t20 =>
  ldT t20 (w3.drew) fun t21 =>
  fadT 1 t3 fun t22 =>
  ldT t22 (w3.drew) fun t23 =>
  ixaT 5 t21 t23 fun t24 =>
  ldsT 5 t24 (w3.drew) fun t25 =>
  clT PR 182 [t25, (.int .i64 (-1))] (w3.drew) fun t26 w6 =>
  stsT 6 t4 t26 w6 fun w7 =>
  ldsT 6 t4 w7 fun r8 =>
  R r8 w7)
def Fimpl_Mach_callAt.H : Hints := {draw := fun i => match i with | 3 => { T := [0, 1, 0, 4, 15, 31, 63, 0, 128, 511, 1023, 2047, 4095] } | _ => {}}
theorem Fimpl_Mach_callAt.eq (t0 t1 : Value) : trF PR CX Fimpl_Mach_callAt.H Tryz.f118 [t0, t1] = Fimpl_Mach_callAt t0 t1 := by kernel_rfl
theorem Fimpl_Mach_callAt.cl {t0 t1 : Value} {w : World} {R : VW} (h : Fimpl_Mach_callAt t0 t1 w R) : clT PR 118 [t0, t1] w R := cl_of_tr (H := Fimpl_Mach_callAt.H) ctxOk Tryz.func118 rfl (by rw [Fimpl_Mach_callAt.eq]; exact h)
def Fimpl_Mach_calledBy (t0 t1 : Value) (w : World) (R : VW) : Prop :=
  boxT 37 t0 w fun t2 w1 =>
  boxT 142 t1 w1 fun t3 w2 =>
  allocT 142 #[(.int .i64 0), (.int .i64 0)] w2 fun t4 w3 =>
  fadT 0 t3 fun t9 =>
  ldT t9 w3 fun t10 =>
  binT .geq t10 (.int .i64 0) fun t11 =>
  condT t11
  (fadT 1 t3 fun t13 =>
  ldT t13 w3 fun t14 =>
  binT .gtr t14 (.int .i64 0) fun t15 =>
  condT t15
  (ldsT 8 t2 w3 fun t17 =>
  fadT 0 t3 fun t18 =>
  ldT t18 w3 fun t19 =>
  fadT 1 t3 fun t20 =>
  ldT t20 w3 fun t21 =>
  binT .sub t21 (.int .i64 1) fun t22 =>
  bldT #[(.int .i64 0), (.int .i64 0)] [(0, 1, t19), (1, 1, t22)] fun t23 =>
  clT PR 117 [t17, t23] w3 fun t24 w4 =>
  stsT 2 t4 t24 w4 fun w5 =>
  ldsT 2 t4 w5 fun r6 =>
  R (.tuple #[r6, (.bool true)]) w5)
  (ldsT 8 t2 w3 fun t26 =>
  ldsT 2 t3 w3 fun t27 =>
  clT PR 184 [t26, t27] w3 fun t28 w7 =>
  extT t28 0 fun t29 =>
  extT t28 1 fun t30 =>
  extT t28 2 fun t31 =>
  allocT 142 #[(.int .i64 0), (.int .i64 0)] w7 fun t6 w8 =>
  stsT 2 t6 t29 w8 fun w9 =>
  ldsT 2 t6 w9 fun t32 =>
  stsT 2 t4 t32 w9 fun w10 =>
  ldsT 2 t4 w10 fun r11 =>
  R (.tuple #[r11, t30]) w10))
  (ldsT 8 t2 w3 fun t26 =>
  ldsT 2 t3 w3 fun t27 =>
  clT PR 184 [t26, t27] w3 fun t28 w12 =>
  extT t28 0 fun t29 =>
  extT t28 1 fun t30 =>
  extT t28 2 fun t31 =>
  allocT 142 #[(.int .i64 0), (.int .i64 0)] w12 fun t6 w13 =>
  stsT 2 t6 t29 w13 fun w14 =>
  ldsT 2 t6 w14 fun t32 =>
  stsT 2 t4 t32 w14 fun w15 =>
  ldsT 2 t4 w15 fun r16 =>
  R (.tuple #[r16, t30]) w15)
def Fimpl_Mach_calledBy.H : Hints := {}
theorem Fimpl_Mach_calledBy.eq (t0 t1 : Value) : trF PR CX Fimpl_Mach_calledBy.H Tryz.f119 [t0, t1] = Fimpl_Mach_calledBy t0 t1 := by kernel_rfl
theorem Fimpl_Mach_calledBy.cl {t0 t1 : Value} {w : World} {R : VW} (h : Fimpl_Mach_calledBy t0 t1 w R) : clT PR 119 [t0, t1] w R := cl_of_tr (H := Fimpl_Mach_calledBy.H) ctxOk Tryz.func119 rfl (by rw [Fimpl_Mach_calledBy.eq]; exact h)
def Fimpl_viewer_vals.l1 (x0 x4 x5 x12 x13 x14 : Value) (w : World) (Kn Kb Kr : LW) : Prop := ∀ _ : Env,
  binT .lss x14 x13 fun t15 =>
  condT t15
  (ixaT 2 x12 x14 fun t17 =>
  ldsT 2 t17 w fun t18 =>
  allocT 127 #[(.int .i64 0), (.int .i64 0)] w fun t7 w2 =>
  stsT 2 t7 t18 w2 fun w3 =>
  fadT 0 t7 fun t19 =>
  ldT t19 w3 fun t20 =>
  binT .neq t20 (.int .i64 2) fun t21 =>
  condT t21
  (binT .add x14 (.int .i64 1) fun t39 =>
  Kn [x0, x4, x5, x12, x13, t39] w3)
  (nilT PR x0 fun t24 =>
  fadT 0 t24 fun t25 =>
  ldsT 8 t25 (w3.drew) fun t26 =>
  fadT 1 t7 fun t27 =>
  ldT t27 (w3.drew) fun t28 =>
  arT [(142, #[(.int .i64 0), (.int .i64 0)])] (w3.drew) [none] fun w4 s5 =>
  clT PR 181 [t26, t28] w4 fun t29 w6 =>
  extT t29 0 fun t30 =>
  extT t29 1 fun t31 =>
  arT [(142, #[(.int .i64 0), (.int .i64 0)])] w6 s5 fun w7 s8 =>
  ndT s8 0 fun b9 =>
  stsT 2 (.pointer (some ⟨b9, 0, none⟩)) t30 w7 fun w10 =>
  arT [(142, #[(.int .i64 0), (.int .i64 0)])] w10 s8 fun w11 s12 =>
  ndT s12 0 fun b13 =>
  arT [(142, #[(.int .i64 0), (.int .i64 0)])] w11 s12 fun w14 s15 =>
  ndT s15 0 fun b16 =>
  ldsT 2 (.pointer (some ⟨b16, 0, none⟩)) w14 fun t35 =>
  clT PR 116 [x0, t35] w14 fun t36 w17 =>
  ixaT 2 x5 x14 fun t37 =>
  fadT 1 t37 fun t38 =>
  stT t38 t36 w17 fun w18 =>
  binT .add x14 (.int .i64 1) fun t39 =>
  Kn [x0, x4, x5, x12, x13, t39] w18))
  (Kb [x0, x4, x5, x12, x13, x14] w)
def Fimpl_viewer_vals.k2 (x0 x4 x5 x12 x13 x14 : Value) (w : World) (R : VW) : Prop := ∀ _ : Env,
  R x5 w
def Fimpl_viewer_vals.r3 (x0 x4 x5 x12 x13 x14 : Value) (w : World) (R : VW) : Prop := ∀ _ : Env,
  R x4 w
def Fimpl_viewer_vals (t0 t1 : Value) (w : World) (R : VW) : Prop :=
  clT PR 98 [t1] w fun t11 w1 =>
  lenT t11 fun t13 =>
  loopT (fun s w Kn Kb Kr => Fimpl_viewer_vals.l1 (s.headD undef) (s.tail.headD undef) (s.tail.tail.headD undef) (s.tail.tail.tail.headD undef) (s.tail.tail.tail.tail.headD undef) (s.tail.tail.tail.tail.tail.headD undef) w Kn Kb Kr) [t0, (.slice none 0 0), t11, t11, t13, (.int .i64 0)] w1
  (fun s w => Fimpl_viewer_vals.k2 (s.headD undef) (s.tail.headD undef) (s.tail.tail.headD undef) (s.tail.tail.tail.headD undef) (s.tail.tail.tail.tail.headD undef) (s.tail.tail.tail.tail.tail.headD undef) w R)
  (fun s w => Fimpl_viewer_vals.r3 (s.headD undef) (s.tail.headD undef) (s.tail.tail.headD undef) (s.tail.tail.tail.headD undef) (s.tail.tail.tail.tail.headD undef) (s.tail.tail.tail.tail.tail.headD undef) w R)
def Fimpl_viewer_vals.H : Hints := {draw := fun i => match i with | 6 => { T := [0, 1, 3, 7, 0, 16, 63, 127, 255, 255, 0, 1535, 4095], F := [10] } | _ => {}, loop := fun i => match i with | 3 => some (0, [0, 4, 5, 12, 13, 14]) | _ => none}
theorem Fimpl_viewer_vals.eq (t0 t1 : Value) : trF PR CX Fimpl_viewer_vals.H Tryz.f120 [t0, t1] = Fimpl_viewer_vals t0 t1 := by kernel_rfl
theorem Fimpl_viewer_vals.cl {t0 t1 : Value} {w : World} {R : VW} (h : Fimpl_viewer_vals t0 t1 w R) : clT PR 120 [t0, t1] w R := cl_of_tr (H := Fimpl_viewer_vals.H) ctxOk Tryz.func120 rfl (by rw [Fimpl_viewer_vals.eq]; exact h)
def Fimpl_Call_frame (t0 t1 : Value) (w : World) (R : VW) : Prop :=
  boxT 89 t0 w fun t2 w1 =>
  allocT 162 #[(.int .i64 0), (.int .i64 0), (.int .i64 0), (.slice none 0 0), (.slice none 0 0)] w1 fun t4 w2 =>
  fadT 0 t2 fun t5 =>
  ldT t5 w2 fun t6 =>
  fadT 1 t2 fun t7 =>
  ldT t7 w2 fun t8 =>
  fadT 2 t2 fun t10 =>
  ldT t10 w2 fun t11 =>
  fadT 3 t2 fun t12 =>
  ldT t12 w2 fun t13 =>
  bldT #[(.int .i64 0), (.int .i64 0), (.int .i64 0), (.slice none 0 0), (.slice none 0 0)] [(0, 1, t6), (1, 1, t8), (2, 1, t1), (3, 1, t11), (4, 1, t13)] fun t14 =>
  stsT 5 t4 t14 w2 fun w3 =>
  ldsT 5 t4 w3 fun r4 =>
  R r4 w3
def Fimpl_Call_frame.H : Hints := {}
theorem Fimpl_Call_frame.eq (t0 t1 : Value) : trF PR CX Fimpl_Call_frame.H Tryz.f126 [t0, t1] = Fimpl_Call_frame t0 t1 := by kernel_rfl
theorem Fimpl_Call_frame.cl {t0 t1 : Value} {w : World} {R : VW} (h : Fimpl_Call_frame t0 t1 w R) : clT PR 126 [t0, t1] w R := cl_of_tr (H := Fimpl_Call_frame.H) ctxOk Tryz.func126 rfl (by rw [Fimpl_Call_frame.eq]; exact h)
def Fslices_Contains_int (t0 t1 : Value) (w : World) (R : VW) : Prop :=
  clT PR 224 [t0, t1] w fun t7 w1 =>
  binT .geq t7 (.int .i64 0) fun t8 =>
  R t8 w1
def Fslices_Contains_int.H : Hints := {}
theorem Fslices_Contains_int.eq (t0 t1 : Value) : trF PR CX Fslices_Contains_int.H Tryz.f176 [t0, t1] = Fslices_Contains_int t0 t1 := by kernel_rfl
theorem Fslices_Contains_int.cl {t0 t1 : Value} {w : World} {R : VW} (h : Fslices_Contains_int t0 t1 w R) : clT PR 176 [t0, t1] w R := cl_of_tr (H := Fslices_Contains_int.H) ctxOk Tryz.func176 rfl (by rw [Fslices_Contains_int.eq]; exact h)
def Fimpl_Page_used.l1 (x2 x3 x7 x8 x9 : Value) (w : World) (Kn Kb Kr : LW) : Prop := ∀ _ : Env,
  binT .lss x9 x8 fun t10 =>
  condT t10
  (ixaT 5 x7 x9 fun t11 =>
  ldsT 5 t11 w fun t12 =>
  allocT 162 #[(.int .i64 0), (.int .i64 0), (.int .i64 0), (.slice none 0 0), (.slice none 0 0)] w fun t5 w2 =>
  stsT 5 t5 t12 w2 fun w3 =>
  ldsT 5 t5 w3 fun t14 =>
  clT PR 226 [t14] w3 fun t15 w4 =>
  binT .add x3 t15 fun t16 =>
  binT .add x9 (.int .i64 1) fun t17 =>
  Kn [x2, t16, x7, x8, t17] w4)
  (Kb [x2, x3, x7, x8, x9] w)
def Fimpl_Page_used.k2 (x2 x3 x7 x8 x9 : Value) (w : World) (R : VW) : Prop := ∀ _ : Env,
  R x3 w
def Fimpl_Page_used.r3 (x2 x3 x7 x8 x9 : Value) (w : World) (R : VW) : Prop := ∀ _ : Env,
  R x2 w
def Fimpl_Page_used (t0 : Value) (w : World) (R : VW) : Prop :=
  boxT 116 t0 w fun t1 w1 =>
  fadT 1 t1 fun t6 =>
  ldT t6 w1 fun t7 =>
  lenT t7 fun t8 =>
  loopT (fun s w Kn Kb Kr => Fimpl_Page_used.l1 (s.headD undef) (s.tail.headD undef) (s.tail.tail.headD undef) (s.tail.tail.tail.headD undef) (s.tail.tail.tail.tail.headD undef) w Kn Kb Kr) [(.int .i64 0), (.int .i64 0), t7, t8, (.int .i64 0)] w1
  (fun s w => Fimpl_Page_used.k2 (s.headD undef) (s.tail.headD undef) (s.tail.tail.headD undef) (s.tail.tail.tail.headD undef) (s.tail.tail.tail.tail.headD undef) w R)
  (fun s w => Fimpl_Page_used.r3 (s.headD undef) (s.tail.headD undef) (s.tail.tail.headD undef) (s.tail.tail.tail.headD undef) (s.tail.tail.tail.tail.headD undef) w R)
def Fimpl_Page_used.H : Hints := {loop := fun i => match i with | 3 => some (0, [2, 3, 7, 8, 9]) | _ => none}
theorem Fimpl_Page_used.eq (t0 : Value) : trF PR CX Fimpl_Page_used.H Tryz.f180 [t0] = Fimpl_Page_used t0 := by kernel_rfl
theorem Fimpl_Page_used.cl {t0 : Value} {w : World} {R : VW} (h : Fimpl_Page_used t0 w R) : clT PR 180 [t0] w R := cl_of_tr (H := Fimpl_Page_used.H) ctxOk Tryz.func180 rfl (by rw [Fimpl_Page_used.eq]; exact h)
def Fimpl_Mach_placeOf (t0 t1 : Value) (w : World) (R : VW) : Prop :=
  boxT 37 t0 w fun t2 w1 =>
  allocT 142 #[(.int .i64 0), (.int .i64 0)] w1 fun t4 w2 =>
  fadT 4 t2 fun t9 =>
  ldT t9 w2 fun t10 =>
  lenT t10 fun t11 =>
  binT .sub t11 (.int .i64 1) fun t12 =>
  clT PR 121 [t1, (.int .i64 0), t12] w2 fun t13 w3 =>
  notT t13 fun t14 =>
  condT t14
  (bldT #[(.int .i64 0), (.int .i64 0)] [] fun t15 =>
  stsT 2 t4 t15 w3 fun w4 =>
  ldsT 2 t4 w4 fun r5 =>
  R (.tuple #[r5, (.bool false)]) w4)
  (fadT 4 t2 fun t16 =>
  ldT t16 w3 fun t17 =>
  ixaT 8 t17 t1 fun t19 =>
  ldsT 8 t19 w3 fun t20 =>
  allocT 91 #[(.int .i64 0), (.int .i64 0), (.int .i64 0), (.int .i64 0), (.slice none 0 0), (.slice none 0 0), (.int .i64 0), (.bool false)] w3 fun t6 w6 =>
  stsT 8 t6 t20 w6 fun w7 =>
  fadT 0 t6 fun t21 =>
  ldT t21 w7 fun t22 =>
  binT .lss t22 (.int .i64 0) fun t23 =>
  condT t23
  (bldT #[(.int .i64 0), (.int .i64 0)] [(0, 1, (.int .i64 (-1))), (1, 1, t1)] fun t25 =>
  stsT 2 t4 t25 w7 fun w8 =>
  ldsT 2 t4 w8 fun r9 =>
  R (.tuple #[r9, (.bool true)]) w8)
  (fadT 0 t6 fun t26 =>
  ldT t26 w7 fun t27 =>
  fadT 1 t6 fun t28 =>
  ldT t28 w7 fun t29 =>
  bldT #[(.int .i64 0), (.int .i64 0)] [(0, 1, t27), (1, 1, t29)] fun t30 =>
  allocT 142 #[(.int .i64 0), (.int .i64 0)] w7 fun t7 w10 =>
  stsT 2 t7 t30 w10 fun w11 =>
  ldsT 2 t7 (w11.drew) fun t31 =>
  fadT 0 t6 fun t32 =>
  ldT t32 (w11.drew) fun t33 =>
  fadT 1 t2 fun t34 =>
  ldT t34 (w11.drew) fun t35 =>
  lenT t35 fun t36 =>
  binT .lss t33 t36 fun t37 =>
  condT t37
  (fadT 1 t6 fun t39 =>
  ldT t39 (w11.drew) fun t40 =>
  fadT 1 t2 fun t41 =>
  ldT t41 (w11.drew) fun t42 =>
  fadT 0 t6 fun t43 =>
  ldT t43 (w11.drew) fun t44 =>
  ixaT 2 t42 t44 fun t45 =>
  fadT 1 t45 fun t46 =>
  ldT t46 (w11.drew) fun t47 =>
  lenT t47 fun t48 =>
  binT .sub t48 (.int .i64 1) fun t49 =>
  clT PR 121 [t40, (.int .i64 0), t49] (w11.drew) fun t50 w12 =>
  (ldsT 2 t7 w12 fun u => u = t31) ∧
  stsT 2 t4 t31 w12 fun w13 =>
  ldsT 2 t4 w13 fun r14 =>
  R (.tuple #[r14, t50]) w13)
  (stsT 2 t4 t31 (w11.drew) fun w15 =>
  ldsT 2 t4 w15 fun r16 =>
  R (.tuple #[r16, (.bool false)]) w15)))
def Fimpl_Mach_placeOf.H : Hints := {draw := fun i => match i with | 7 => { T := [0, 0, 2, 0, 8, 24, 62, 126, 254, 510, 254, 1278, 254, 4350, 15614, 31998, 64766, 130302, 261374, 524286, 1048574, 1048575, 4194303] } | _ => {}}
theorem Fimpl_Mach_placeOf.eq (t0 t1 : Value) : trF PR CX Fimpl_Mach_placeOf.H Tryz.f181 [t0, t1] = Fimpl_Mach_placeOf t0 t1 := by kernel_rfl
theorem Fimpl_Mach_placeOf.cl {t0 t1 : Value} {w : World} {R : VW} (h : Fimpl_Mach_placeOf t0 t1 w R) : clT PR 181 [t0, t1] w R := cl_of_tr (H := Fimpl_Mach_placeOf.H) ctxOk Tryz.func181 rfl (by rw [Fimpl_Mach_placeOf.eq]; exact h)
def Fimpl_Frame_call (t0 t1 : Value) (w : World) (R : VW) : Prop :=
  boxT 162 t0 w fun t2 w1 =>
  allocT 89 #[(.int .i64 0), (.int .i64 0), (.slice none 0 0), (.slice none 0 0), (.int .i64 0), (.bool false)] w1 fun t4 w2 =>
  fadT 0 t2 fun t5 =>
  ldT t5 w2 fun t6 =>
  fadT 1 t2 fun t7 =>
  ldT t7 w2 fun t8 =>
  fadT 3 t2 fun t9 =>
  ldT t9 w2 fun t10 =>
  fadT 4 t2 fun t11 =>
  ldT t11 w2 fun t12 =>
  bldT #[(.int .i64 0), (.int .i64 0), (.slice none 0 0), (.slice none 0 0), (.int .i64 0), (.bool false)] [(0, 1, t6), (1, 1, t8), (2, 1, t10), (3, 1, t12), (4, 1, t1), (5, 1, (.bool false))] fun t14 =>
  stsT 6 t4 t14 w2 fun w3 =>
  ldsT 6 t4 w3 fun r4 =>
  R r4 w3
def Fimpl_Frame_call.H : Hints := {}
theorem Fimpl_Frame_call.eq (t0 t1 : Value) : trF PR CX Fimpl_Frame_call.H Tryz.f182 [t0, t1] = Fimpl_Frame_call t0 t1 := by kernel_rfl
theorem Fimpl_Frame_call.cl {t0 t1 : Value} {w : World} {R : VW} (h : Fimpl_Frame_call t0 t1 w R) : clT PR 182 [t0, t1] w R := cl_of_tr (H := Fimpl_Frame_call.H) ctxOk Tryz.func182 rfl (by rw [Fimpl_Frame_call.eq]; exact h)
def Fimpl_Call_empty (t0 : Value) (w : World) (R : VW) : Prop :=
  boxT 89 t0 w fun t1 w1 =>
  fadT 0 t1 fun t3 =>
  ldT t3 w1 fun t4 =>
  binT .eql t4 (.int .i64 0) fun t5 =>
  condT t5
  (fadT 1 t1 fun t7 =>
  ldT t7 w1 fun t8 =>
  binT .eql t8 (.int .i64 0) fun t9 =>
  condT t9
  (fadT 2 t1 fun t12 =>
  ldT t12 w1 fun t13 =>
  lenT t13 fun t14 =>
  binT .eql t14 (.int .i64 0) fun t15 =>
  condT t15
  (fadT 3 t1 fun t18 =>
  ldT t18 w1 fun t19 =>
  lenT t19 fun t20 =>
  binT .eql t20 (.int .i64 0) fun t21 =>
  condT t21
  (fadT 4 t1 fun t24 =>
  ldT t24 w1 fun t25 =>
  binT .eql t25 (.int .i64 0) fun t26 =>
  condT t26
  (fadT 5 t1 fun t29 =>
  ldT t29 w1 fun t30 =>
  notT t30 fun t31 =>
  R t31 w1)
  (R (.bool false) w1))
  (R (.bool false) w1))
  (R (.bool false) w1))
  (R (.bool false) w1))
  (R (.bool false) w1)
def Fimpl_Call_empty.H : Hints := {}
theorem Fimpl_Call_empty.eq (t0 : Value) : trF PR CX Fimpl_Call_empty.H Tryz.f183 [t0] = Fimpl_Call_empty t0 := by kernel_rfl
theorem Fimpl_Call_empty.cl {t0 : Value} {w : World} {R : VW} (h : Fimpl_Call_empty t0 w R) : clT PR 183 [t0] w R := cl_of_tr (H := Fimpl_Call_empty.H) ctxOk Tryz.func183 rfl (by rw [Fimpl_Call_empty.eq]; exact h)
def Fimpl_Mach_caller.j1 (x2 x4 x7 : Value) (w : World) (R : VW) : Prop := ∀ _ : Env,
  binT .eql x7 (.int .i64 (-1)) fun t38 =>
  condT t38
  (bldT #[(.int .i64 0), (.int .i64 0)] [] fun t39 =>
  stsT 2 x4 t39 w fun w4 =>
  ldsT 2 x4 w4 fun r5 =>
  R (.tuple #[r5, (.bool false), (.bool true)]) w4)
  (ldsT 8 x2 w fun t41 =>
  clT PR 181 [t41, x7] w fun t43 w6 =>
  extT t43 0 fun t44 =>
  extT t43 1 fun t45 =>
  stsT 2 x4 t44 w6 fun w7 =>
  ldsT 2 x4 w7 fun t46 =>
  stsT 2 x4 t46 w7 fun w8 =>
  ldsT 2 x4 w8 fun r9 =>
  R (.tuple #[r9, t45, t45]) w8)
def Fimpl_Mach_caller (t0 t1 : Value) (w : World) (R : VW) : Prop :=
  boxT 37 t0 w fun t2 w1 =>
  boxT 142 t1 w1 fun t3 w2 =>
  allocT 142 #[(.int .i64 0), (.int .i64 0)] w2 fun t4 w3 =>
  fadT 0 t3 fun t16 =>
  ldT t16 w3 fun t17 =>
  binT .lss t17 (.int .i64 0) fun t18 =>
  condT t18
  (fadT 4 t2 fun t19 =>
  ldT t19 w3 fun t20 =>
  fadT 1 t3 fun t21 =>
  ldT t21 w3 fun t22 =>
  ixaT 8 t20 t22 fun t23 =>
  fadT 2 t23 fun t24 =>
  fadT 4 t24 fun t25 =>
  ldT t25 w3 fun t26 =>
  Fimpl_Mach_caller.j1 t2 t4 t26 w3 R)
  (fadT 1 t3 fun t28 =>
  ldT t28 w3 fun t29 =>
  binT .gtr t29 (.int .i64 0) fun t30 =>
  condT t30
  (fadT 0 t3 fun t31 =>
  ldT t31 w3 fun t32 =>
  fadT 1 t3 fun t33 =>
  ldT t33 w3 fun t34 =>
  binT .sub t34 (.int .i64 1) fun t35 =>
  bldT #[(.int .i64 0), (.int .i64 0)] [(0, 1, t32), (1, 1, t35)] fun t36 =>
  stsT 2 t4 t36 w3 fun w10 =>
  ldsT 2 t4 w10 fun r11 =>
  R (.tuple #[r11, (.bool true), (.bool true)]) w10)
  (fadT 1 t2 fun t8 =>
  ldT t8 w3 fun t9 =>
  fadT 0 t3 fun t10 =>
  ldT t10 w3 fun t11 =>
  ixaT 2 t9 t11 fun t12 =>
  fadT 0 t12 fun t13 =>
  ldT t13 w3 fun t14 =>
  Fimpl_Mach_caller.j1 t2 t4 t14 w3 R))
def Fimpl_Mach_caller.H : Hints := {join := fun i => match i with | 15 => some [2, 4, 7] | _ => none}
theorem Fimpl_Mach_caller.eq (t0 t1 : Value) : trF PR CX Fimpl_Mach_caller.H Tryz.f184 [t0, t1] = Fimpl_Mach_caller t0 t1 := by kernel_rfl
theorem Fimpl_Mach_caller.cl {t0 t1 : Value} {w : World} {R : VW} (h : Fimpl_Mach_caller t0 t1 w R) : clT PR 184 [t0, t1] w R := cl_of_tr (H := Fimpl_Mach_caller.H) ctxOk Tryz.func184 rfl (by rw [Fimpl_Mach_caller.eq]; exact h)
def Fimpl_Mach_valsThere (t0 t1 : Value) (w : World) (R : VW) : Prop :=
  boxT 37 t0 w fun t2 w1 =>
  clT PR 227 [t1] w1 fun t6 w2 =>
  clT PR 179 [t6, (.func (.func 228) #[] #[t2])] w2 fun t8 w3 =>
  notT t8 fun t9 =>
  R t9 w3
def Fimpl_Mach_valsThere.H : Hints := {}
theorem Fimpl_Mach_valsThere.eq (t0 t1 : Value) : trF PR CX Fimpl_Mach_valsThere.H Tryz.f185 [t0, t1] = Fimpl_Mach_valsThere t0 t1 := by kernel_rfl
theorem Fimpl_Mach_valsThere.cl {t0 t1 : Value} {w : World} {R : VW} (h : Fimpl_Mach_valsThere t0 t1 w R) : clT PR 185 [t0, t1] w R := cl_of_tr (H := Fimpl_Mach_valsThere.H) ctxOk Tryz.func185 rfl (by rw [Fimpl_Mach_valsThere.eq]; exact h)
def Fslices_Index_int.l1 (x0 x1 x4 x7 x8 : Value) (w : World) (Kn Kb Kr : LW) : Prop := ∀ _ : Env,
  binT .lss x8 x7 fun t9 =>
  condT t9
  (ixaT 1 x0 x8 fun t14 =>
  ldT t14 w fun t15 =>
  binT .eql x1 t15 fun t16 =>
  condT t16
  (Kr [x0, x1, x8, x7, x8] w)
  (binT .add x8 (.int .i64 1) fun t18 =>
  Kn [x0, x1, x4, x7, t18] w))
  (Kb [x0, x1, x4, x7, x8] w)
def Fslices_Index_int.k2 (x0 x1 x4 x7 x8 : Value) (w : World) (R : VW) : Prop := ∀ _ : Env,
  R (.int .i64 (-1)) w
def Fslices_Index_int.r3 (x0 x1 x4 x7 x8 : Value) (w : World) (R : VW) : Prop := ∀ _ : Env,
  R x4 w
def Fslices_Index_int (t0 t1 : Value) (w : World) (R : VW) : Prop :=
  lenT t0 fun t7 =>
  loopT (fun s w Kn Kb Kr => Fslices_Index_int.l1 (s.headD undef) (s.tail.headD undef) (s.tail.tail.headD undef) (s.tail.tail.tail.headD undef) (s.tail.tail.tail.tail.headD undef) w Kn Kb Kr) [t0, t1, (.int .i64 0), t7, (.int .i64 0)] w
  (fun s w => Fslices_Index_int.k2 (s.headD undef) (s.tail.headD undef) (s.tail.tail.headD undef) (s.tail.tail.tail.headD undef) (s.tail.tail.tail.tail.headD undef) w R)
  (fun s w => Fslices_Index_int.r3 (s.headD undef) (s.tail.headD undef) (s.tail.tail.headD undef) (s.tail.tail.tail.headD undef) (s.tail.tail.tail.tail.headD undef) w R)
def Fslices_Index_int.H : Hints := {loop := fun i => match i with | 2 => some (0, [0, 1, 4, 7, 8]) | _ => none}
theorem Fslices_Index_int.eq (t0 t1 : Value) : trF PR CX Fslices_Index_int.H Tryz.f224 [t0, t1] = Fslices_Index_int t0 t1 := by kernel_rfl
theorem Fslices_Index_int.cl {t0 t1 : Value} {w : World} {R : VW} (h : Fslices_Index_int t0 t1 w R) : clT PR 224 [t0, t1] w R := cl_of_tr (H := Fslices_Index_int.H) ctxOk Tryz.func224 rfl (by rw [Fslices_Index_int.eq]; exact h)
def Fimpl_Frame_cells (t0 : Value) (w : World) (R : VW) : Prop :=
  boxT 162 t0 w fun t1 w1 =>
  fadT 3 t1 fun t3 =>
  ldT t3 w1 fun t4 =>
  lenT t4 fun t5 =>
  binT .add (.int .i64 4) t5 fun t6 =>
  binT .add t6 (.int .i64 6) fun t7 =>
  R t7 w1
def Fimpl_Frame_cells.H : Hints := {}
theorem Fimpl_Frame_cells.eq (t0 : Value) : trF PR CX Fimpl_Frame_cells.H Tryz.f226 [t0] = Fimpl_Frame_cells t0 := by kernel_rfl
theorem Fimpl_Frame_cells.cl {t0 : Value} {w : World} {R : VW} (h : Fimpl_Frame_cells t0 w R) : clT PR 226 [t0] w R := cl_of_tr (H := Fimpl_Frame_cells.H) ctxOk Tryz.func226 rfl (by rw [Fimpl_Frame_cells.eq]; exact h)
def Fslices_Concat_Val.l1 (x0 x2 x3 x9 x10 x11 : Value) (w : World) (Kn Kb Kr : LW) : Prop := ∀ _ : Env,
  binT .lss x11 x10 fun t12 =>
  condT t12
  (ixaT 1 x9 x11 fun t13 =>
  ldT t13 w fun t14 =>
  lenT t14 fun t17 =>
  binT .add x3 t17 fun t18 =>
  binT .lss t18 (.int .i64 0) fun t20 =>
  condT t20
  (False)
  (binT .add x11 (.int .i64 1) fun t22 =>
  Kn [x0, x2, t18, x9, x10, t22] w))
  (Kb [x0, x2, x3, x9, x10, x11] w)
def Fslices_Concat_Val.l3 (x2 x6 x25 x26 x27 : Value) (w : World) (Kn Kb Kr : LW) : Prop := ∀ _ : Env,
  binT .lss x27 x26 fun t28 =>
  condT t28
  (ixaT 1 x25 x27 fun t29 =>
  ldT t29 w fun t30 =>
  opT PR (Builtin.append_ #[35, 35] 35 #[x6, t30]) w fun t33 w2 =>
  binT .add x27 (.int .i64 1) fun t34 =>
  Kn [x2, t33, x25, x26, t34] w2)
  (Kb [x2, x6, x25, x26, x27] w)
def Fslices_Concat_Val.k4 (x2 x6 x25 x26 x27 : Value) (w : World) (R : VW) : Prop := ∀ _ : Env,
  R x6 w
def Fslices_Concat_Val.r5 (x2 x6 x25 x26 x27 : Value) (w : World) (R : VW) : Prop := ∀ _ : Env,
  R x2 w
def Fslices_Concat_Val.k2 (x0 x2 x3 x9 x10 x11 : Value) (w : World) (R : VW) : Prop := ∀ _ : Env,
  clT PR 252 [(.slice none 0 0), x3] w fun t24 w1 =>
  lenT x0 fun t26 =>
  loopT (fun s w Kn Kb Kr => Fslices_Concat_Val.l3 (s.headD undef) (s.tail.headD undef) (s.tail.tail.headD undef) (s.tail.tail.tail.headD undef) (s.tail.tail.tail.tail.headD undef) w Kn Kb Kr) [x2, t24, x0, t26, (.int .i64 0)] w1
  (fun s w => Fslices_Concat_Val.k4 (s.headD undef) (s.tail.headD undef) (s.tail.tail.headD undef) (s.tail.tail.tail.headD undef) (s.tail.tail.tail.tail.headD undef) w R)
  (fun s w => Fslices_Concat_Val.r5 (s.headD undef) (s.tail.headD undef) (s.tail.tail.headD undef) (s.tail.tail.tail.headD undef) (s.tail.tail.tail.tail.headD undef) w R)
def Fslices_Concat_Val.r6 (x0 x2 x3 x9 x10 x11 : Value) (w : World) (R : VW) : Prop := ∀ _ : Env,
  R x2 w
def Fslices_Concat_Val (t0 : Value) (w : World) (R : VW) : Prop :=
  lenT t0 fun t10 =>
  loopT (fun s w Kn Kb Kr => Fslices_Concat_Val.l1 (s.headD undef) (s.tail.headD undef) (s.tail.tail.headD undef) (s.tail.tail.tail.headD undef) (s.tail.tail.tail.tail.headD undef) (s.tail.tail.tail.tail.tail.headD undef) w Kn Kb Kr) [t0, (.slice none 0 0), (.int .i64 0), t0, t10, (.int .i64 0)] w
  (fun s w => Fslices_Concat_Val.k2 (s.headD undef) (s.tail.headD undef) (s.tail.tail.headD undef) (s.tail.tail.tail.headD undef) (s.tail.tail.tail.tail.headD undef) (s.tail.tail.tail.tail.tail.headD undef) w R)
  (fun s w => Fslices_Concat_Val.r6 (s.headD undef) (s.tail.headD undef) (s.tail.tail.headD undef) (s.tail.tail.tail.headD undef) (s.tail.tail.tail.tail.headD undef) (s.tail.tail.tail.tail.tail.headD undef) w R)
def Fslices_Concat_Val.H : Hints := {loop := fun i => match i with | 3 => some (0, [0, 2, 3, 9, 10, 11]) | 11 => some (2, [2, 6, 25, 26, 27]) | _ => none}
theorem Fslices_Concat_Val.eq (t0 : Value) : trF PR CX Fslices_Concat_Val.H Tryz.f227 [t0] = Fslices_Concat_Val t0 := by kernel_rfl
theorem Fslices_Concat_Val.cl {t0 : Value} {w : World} {R : VW} (h : Fslices_Concat_Val t0 w R) : clT PR 227 [t0] w R := cl_of_tr (H := Fslices_Concat_Val.H) ctxOk Tryz.func227 rfl (by rw [Fslices_Concat_Val.eq]; exact h)
def Fimpl_Mach_valsThere_1 (t0 t1 : Value) (w : World) (R : VW) : Prop :=
  boxT 127 t0 w fun t2 w1 =>
  fadT 0 t2 fun t4 =>
  ldT t4 w1 fun t5 =>
  binT .eql t5 (.int .i64 2) fun t6 =>
  condT t6
  (fadT 1 t2 fun t8 =>
  ldT t8 w1 fun t9 =>
  fadT 4 t1 fun t10 =>
  ldT t10 w1 fun t11 =>
  lenT t11 fun t12 =>
  binT .sub t12 (.int .i64 1) fun t13 =>
  clT PR 121 [t9, (.int .i64 0), t13] w1 fun t14 w2 =>
  notT t14 fun t15 =>
  R t15 w2)
  (R (.bool false) w1)
def Fimpl_Mach_valsThere_1.H : Hints := {}
theorem Fimpl_Mach_valsThere_1.eq (t0 t1 : Value) : trF PR CX Fimpl_Mach_valsThere_1.H Tryz.f228 [t0, t1] = Fimpl_Mach_valsThere_1 t0 t1 := by kernel_rfl
theorem Fimpl_Mach_valsThere_1.cl {t0 t1 : Value} {w : World} {R : VW} (h : Fimpl_Mach_valsThere_1 t0 t1 w R) : clT PR 228 [t0, t1] w R := cl_of_tr (H := Fimpl_Mach_valsThere_1.H) ctxOk Tryz.func228 rfl (by rw [Fimpl_Mach_valsThere_1.eq]; exact h)
end Go.PT
namespace Go.PT
def topP (m : Mc) : Int × Int × Bool := if 0 ≤ m.now ∧ m.now < m.pages.length then (m.now, nF m m.now - 1, decide (0 ≤ nF m m.now - 1)) else (0, 0, false)
def plcOf (m : Mc) (t : Int) : Int × Int × Bool :=
  if 0 ≤ t ∧ t < m.twins.length then (if (twAt m t).page < 0 then (-1, t, true) else ((twAt m t).page, (twAt m t).at', decide ((twAt m t).page < m.pages.length ∧ 0 ≤ (twAt m t).at' ∧ (twAt m t).at' < nF m (twAt m t).page))) else (0, 0, false)
def clAt (m : Mc) (a b : Int) : Cl := if a < 0 then (twAt m b).left else fmCl (fmAt m a b) (-1)
def byOf (m : Mc) (a b : Int) : Int × Int × Bool × Bool :=
  if 0 ≤ a ∧ 0 < b then (a, b - 1, true, true) else
    (if (if a < 0 then (twAt m b).left.sender else (pnAt m a).base) = -1 then (0, 0, false, true)
     else ((plcOf m (if a < 0 then (twAt m b).left.sender else (pnAt m a).base)).1, (plcOf m (if a < 0 then (twAt m b).left.sender else (pnAt m a).base)).2.1, (plcOf m (if a < 0 then (twAt m b).left.sender else (pnAt m a).base)).2.2, (plcOf m (if a < 0 then (twAt m b).left.sender else (pnAt m a).base)).2.2))
def AtM (m : Mc) (a b : Int) : Prop := (a < 0 ∧ 0 ≤ b ∧ b < m.twins.length) ∨ (0 ≤ a ∧ a < m.pages.length ∧ 0 ≤ b ∧ b < nF m a)
attribute [local irreducible] ldT ldsT stT stsT allocT boxT bldT bslT nilT fadT ixaT fldT extT lenT pickT binT notT cviT opT opU condT clT clvT ivT loopT arT ndT World.cell? World.frozen? World.alloc World.drew World.setCell Blk Cells Sl
section
variable {m : Mc} {w : World} {up uo ut us : Value} {R : VW}
theorem c_roomsOk {a b : Int} (hR : R (.bool (inB a 1 4 && inB b 14 60)) w) : clT PR 96 [.int .i64 a, .int .i64 b] w R := by
  refine Fimpl_roomsOk.cl ?_
  unfold Fimpl_roomsOk
  refine c_implIn ?_
  refine cond_of (fun h => ?_) (fun h => ?_)
  · refine c_implIn ?_
    rwa [h, Bool.true_and] at hR
  · rwa [h, Bool.false_and] at hR
theorem c_machTop (V : MachV w m up uo ut us) (B : MB m) (hR : ∀ w', Ext w w' → R (.tuple #[.agg #[.int .i64 (topP m).1, .int .i64 (topP m).2.1], .bool (topP m).2.2]) w') : clT PR 114 [.agg (machCells m up uo ut us).toArray] w R := by
  refine Fimpl_Mach_top.cl ?_
  unfold Fimpl_Mach_top
  have hp := V.pages
  have hB := B.np
  have E := En.start w
  refine E.box (fun b1 w1 E _ => ?_)
  refine E.al (fun b2 w2 E _ => ?_)
  repeat (first | ((refine fad_of ?_)) | ((refine sub_of (by (omega)) (by (omega)) ?_)) | ((refine E.ld (by first | exact .head _ | exact .tail _ (.head _)) (by exact rfl) ?_)) | (refine Sl.len_of (by assumption) ?_))
  refine c_implIn ?_
  (refine not_of ?_)
  refine condN_of (fun hb => ?_) (fun hb => ?_)
  · have ht : topP m = (0, 0, false) := by
      unfold topP; rw [if_neg]
      intro h
      rw [inB_t h.1 (by omega)] at hb; cases hb
    refine bld_of (cs := #[.int .i64 0, .int .i64 0]) rfl ?_
    refine En.sts' (vs := [.int .i64 0, .int .i64 0]) [] rfl E rfl rfl (by simp [Value.oneCell']) (fun w3 E _ => ?_)
    refine E.lds (.head _) rfl ?_
    have := hR _ E.toExt
    rwa [ht] at this
  · have h := inB_iff.mp hb
    have hn := B.frames m.now
    have ht : topP m = (m.now, nF m m.now - 1, decide (0 ≤ nF m m.now - 1)) := by unfold topP; rw [if_pos ⟨h.1, by omega⟩]
    repeat (first | ((refine fad_of ?_)) | ((refine E.ld (by first | exact .head _ | exact .tail _ (.head _)) (by exact rfl) ?_)))
    refine pn_ix (hp.ext E.toExt) h.1 (by omega) (fun b o u hc hf => ?_)
    replace hf : Sl kFm Any w2 [] (pnAt m m.now).frames u := hf
    (refine fad_of ?_)
    refine ld_of (hc.at 1 rfl) ?_
    repeat (first | ((refine fad_of ?_)) | ((refine sub_of (by (omega)) (by (omega)) ?_)) | ((refine E.ld (by first | exact .head _ | exact .tail _ (.head _)) (by exact rfl) ?_)) | (refine Sl.len_of (by assumption) ?_))
    refine bld_of (cs := #[.int .i64 m.now, .int .i64 (((pnAt m m.now).frames.length : Int) - 1)]) rfl ?_
    (refine geq_of ?_)
    refine En.sts' (vs := [.int .i64 m.now, .int .i64 (((pnAt m m.now).frames.length : Int) - 1)]) [] rfl E rfl rfl (by simp [Value.oneCell']) (fun w3 E _ => ?_)
    refine E.lds (.head _) rfl ?_
    have := hR _ E.toExt
    rwa [ht] at this
theorem c_placeOf {t : Int} (V : MachV w m up uo ut us) (B : MB m) (hR : ∀ w', Ext w w' → R (.tuple #[.agg #[.int .i64 (plcOf m t).1, .int .i64 (plcOf m t).2.1], .bool (plcOf m t).2.2]) w') : clT PR 181 [.agg (machCells m up uo ut us).toArray, .int .i64 t] w R := by
  refine Fimpl_Mach_placeOf.cl ?_
  unfold Fimpl_Mach_placeOf
  have hp := V.pages
  have ht := V.twins
  have hB := B.np
  have hB2 := B.nt.1
  have E := En.start w
  refine E.box (fun b1 w1 E _ => ?_)
  refine E.al (fun b2 w2 E _ => ?_)
  repeat (first | ((refine fad_of ?_)) | ((refine sub_of (by (omega)) (by (omega)) ?_)) | ((refine E.ld (by first | exact .head _ | exact .tail _ (.head _)) (by exact rfl) ?_)) | (refine Sl.len_of (by assumption) ?_))
  refine c_implIn ?_
  (refine not_of ?_)
  refine condN_of (fun hb => ?_) (fun hb => ?_)
  · have he : plcOf m t = (0, 0, false) := by
      unfold plcOf; rw [if_neg]
      intro h
      rw [inB_t h.1 (by omega)] at hb; cases hb
    refine bld_of (cs := #[.int .i64 0, .int .i64 0]) rfl ?_
    refine En.sts' (vs := [.int .i64 0, .int .i64 0]) [] rfl E rfl rfl (by simp [Value.oneCell']) (fun w3 E _ => ?_)
    refine E.lds (.head _) rfl ?_
    have := hR _ E.toExt
    rwa [he] at this
  · have h := inB_iff.mp hb
    repeat (first | ((refine fad_of ?_)) | ((refine E.ld (by first | exact .head _ | exact .tail _ (.head _)) (by exact rfl) ?_)))
    refine tw_ix (ht.ext E.toExt) h.1 (by omega) (fun b o u u' hc hu hu' => ?_)
    refine lds_of hc rfl ?_
    refine E.als (vs := cellsT (twAt m t) u u') rfl rfl rfl (by intro x hx; simp only [cellsT, List.mem_cons, List.not_mem_nil, or_false] at hx; rcases hx with h | h | h | h | h | h | h | h <;> rw [h] <;> first | rfl | exact hu.one | exact hu'.one) (fun b6 w6 E _ => ?_)
    (refine fad_of ?_)
    refine E.ld (.head _) rfl ?_
    (refine lss_of ?_)
    refine condLt_of (fun hl => ?_) (fun hl => ?_)
    · have he : plcOf m t = (-1, t, true) := by unfold plcOf; rw [if_pos ⟨h.1, by omega⟩, if_pos hl]
      refine bld_of (cs := #[.int .i64 (-1), .int .i64 t]) rfl ?_
      refine En.sts' (vs := [.int .i64 (-1), .int .i64 t]) [_] rfl E rfl rfl (by simp [Value.oneCell']) (fun w3 E _ => ?_)
      refine E.lds (.tail _ (.head _)) rfl ?_
      have := hR _ E.toExt
      rwa [he] at this
    · have he : plcOf m t = ((twAt m t).page, (twAt m t).at', decide ((twAt m t).page < m.pages.length ∧ 0 ≤ (twAt m t).at' ∧ (twAt m t).at' < nF m (twAt m t).page)) := by unfold plcOf; rw [if_pos ⟨h.1, by omega⟩, if_neg (by omega)]
      rw [he] at hR
      (refine fad_of ?_)
      refine E.ld (.head _) rfl ?_
      (refine fad_of ?_)
      refine E.ld (.head _) rfl ?_
      refine bld_of (cs := #[.int .i64 (twAt m t).page, .int .i64 (twAt m t).at']) rfl ?_
      refine E.als (vs := [.int .i64 (twAt m t).page, .int .i64 (twAt m t).at']) rfl rfl rfl (by simp [Value.oneCell']) (fun b7 w7 E _ => ?_)
      replace E := E.drew
      refine E.lds (.head _) rfl ?_
      (refine fad_of ?_)
      refine E.ld (by (exact .tail _ (.head _))) rfl ?_
      (refine fad_of ?_)
      refine E.ld (by (exact .tail _ (.tail _ (.tail _ (.head _))))) rfl ?_
      refine hp.len_of ?_
      (refine lss_of ?_)
      refine condLt_of (fun hl2 => ?_) (fun hl2 => ?_)
      · have hn := B.frames (twAt m t).page
        (refine fad_of ?_)
        refine E.ld (by (exact .tail _ (.head _))) rfl ?_
        (refine fad_of ?_)
        refine E.ld (by (exact .tail _ (.tail _ (.tail _ (.head _))))) rfl ?_
        (refine fad_of ?_)
        refine E.ld (by (exact .tail _ (.head _))) rfl ?_
        refine pn_ix (hp.ext E.toExt) (i := (twAt m t).page) (by omega) hl2 (fun b o u hc hf => ?_)
        replace hf : Sl kFm Any w7.drew [] (pnAt m (twAt m t).page).frames u := hf
        (refine fad_of ?_)
        refine ld_of (hc.at 1 rfl) ?_
        refine hf.len_of ?_
        (refine sub_of (by (omega)) (by (omega)) ?_)
        refine c_implIn ?_
        refine ⟨E.lds (.head _) rfl rfl, ?_⟩
        refine En.sts' (vs := [.int .i64 (twAt m t).page, .int .i64 (twAt m t).at']) [_, _] rfl E rfl rfl (by simp [Value.oneCell']) (fun w3 E _ => ?_)
        refine E.lds (by (exact .tail _ (.tail _ (.head _)))) rfl ?_
        have e9 : inB (twAt m t).at' 0 (((pnAt m (twAt m t).page).frames.length : Int) - 1) = decide ((twAt m t).page < m.pages.length ∧ 0 ≤ (twAt m t).at' ∧ (twAt m t).at' < nF m (twAt m t).page) := by
          rw [Bool.eq_iff_iff, inB_iff, decide_eq_true_iff]
          unfold nF
          omega
        rw [e9]
        exact hR _ E.toExt
      · refine En.sts' (vs := [.int .i64 (twAt m t).page, .int .i64 (twAt m t).at']) [_, _] rfl E rfl rfl (by simp [Value.oneCell']) (fun w3 E _ => ?_)
        refine E.lds (by (exact .tail _ (.tail _ (.head _)))) rfl ?_
        have := hR _ E.toExt
        rwa [decide_eq_false (by omega)] at this
theorem c_frameCall {f : Fm} {s : Int} {u v : Value} (hf : ∃ A n c, u = .slice A n c) (hg : ∃ A n c, v = .slice A n c) (hR : ∀ w', Ext w w' → R (.agg (cellsC (fmCl f s) u v).toArray) w') : clT PR 182 [.agg (cellsF f u v).toArray, .int .i64 s] w R := by
  obtain ⟨A, n, c, rfl⟩ := hf
  obtain ⟨A', n', c', rfl⟩ := hg
  refine Fimpl_Frame_call.cl ?_
  unfold Fimpl_Frame_call
  have E := En.start w
  refine E.box (fun b1 w1 E _ => ?_)
  refine E.al (fun b2 w2 E _ => ?_)
  (refine fad_of ?_)
  refine E.ld (.tail _ (.head _)) rfl ?_
  (refine fad_of ?_)
  refine E.ld (.tail _ (.head _)) rfl ?_
  (refine fad_of ?_)
  refine E.ld (.tail _ (.head _)) rfl ?_
  (refine fad_of ?_)
  refine E.ld (.tail _ (.head _)) rfl ?_
  refine bld_of (cs := #[.int .i64 f.method, .int .i64 f.pc, .slice A n c, .slice A' n' c', .int .i64 s, .bool false]) (by kernel_rfl) ?_
  refine En.sts' (vs := [.int .i64 f.method, .int .i64 f.pc, .slice A n c, .slice A' n' c', .int .i64 s, .bool false]) [] rfl E rfl rfl (fun u hu => List.all_eq_true.mp rfl u hu) (fun w3 E _ => ?_)
  refine E.lds (.head _) rfl ?_
  exact hR _ E.toExt
theorem c_callFrame {c : Cl} {t : Int} {u v : Value} (hf : ∃ A n c, u = .slice A n c) (hg : ∃ A n c, v = .slice A n c) (hR : ∀ w', Ext w w' → R (.agg (cellsF (clFm c t) u v).toArray) w') : clT PR 126 [.agg (cellsC c u v).toArray, .int .i64 t] w R := by
  obtain ⟨A, n, d, rfl⟩ := hf
  obtain ⟨A', n', d', rfl⟩ := hg
  refine Fimpl_Call_frame.cl ?_
  unfold Fimpl_Call_frame
  have E := En.start w
  refine E.box (fun b1 w1 E _ => ?_)
  refine E.al (fun b2 w2 E _ => ?_)
  (refine fad_of ?_)
  refine E.ld (.tail _ (.head _)) rfl ?_
  (refine fad_of ?_)
  refine E.ld (.tail _ (.head _)) rfl ?_
  (refine fad_of ?_)
  refine E.ld (.tail _ (.head _)) rfl ?_
  (refine fad_of ?_)
  refine E.ld (.tail _ (.head _)) rfl ?_
  refine bld_of (cs := #[.int .i64 c.method, .int .i64 c.pc, .int .i64 t, .slice A n d, .slice A' n' d']) rfl ?_
  refine En.sts' (vs := [.int .i64 c.method, .int .i64 c.pc, .int .i64 t, .slice A n d, .slice A' n' d']) [] rfl E rfl rfl (fun u hu => List.all_eq_true.mp rfl u hu) (fun w3 E _ => ?_)
  refine E.lds (.head _) rfl ?_
  exact hR _ E.toExt
theorem c_callAtM {a b : Int} (V : MachV w m up uo ut us) (ha : AtM m a b) (hR : ∀ w' u v, Ext w w' → Sl kPair Any w' [] (clAt m a b).temps u → Sl kPair Any w' [] (clAt m a b).stack v → R (.agg (cellsC (clAt m a b) u v).toArray) w') : clT PR 118 [.agg (machCells m up uo ut us).toArray, .agg #[.int .i64 a, .int .i64 b]] w R := by
  refine Fimpl_Mach_callAt.cl ?_
  unfold Fimpl_Mach_callAt
  have hp := V.pages
  have ht := V.twins
  have E := En.start w
  refine E.box (fun b1 w1 E _ => ?_)
  refine E.box (fun b2 w2 E _ => ?_)
  refine E.al (fun b3 w3 E _ => ?_)
  repeat (first | (first | refine fad_of ?_ | refine lss_of ?_) | ((refine E.ld (by first | exact .head _ | exact .tail _ (.head _)) (by exact rfl) ?_)))
  refine condLt_of (fun hl => ?_) (fun hl => ?_)
  · have he : clAt m a b = (twAt m b).left := if_pos hl
    rw [he] at hR
    repeat (first | ((refine fad_of ?_)) | ((refine E.ld (by first | exact .head _ | exact .tail _ (.head _) | exact .tail _ (.tail _ (.head _))) (by exact rfl) ?_)))
    refine tw_ix ht (i := b) (by unfold AtM at ha; omega) (by unfold AtM at ha; omega) (fun b' o u u' hc hu hu' => ?_)
    replace hc : Cells w b' o (cellsT (twAt m b) u u') := hc
    (refine fad_of ?_)
    refine lds_of ((hc.ext E.toExt).part 2 6 (sub := cellsC (twAt m b).left u u') rfl) rfl ?_
    refine En.sts' (vs := cellsC (twAt m b).left u u') [] rfl E rfl rfl (by intro x hx; simp only [cellsC, List.mem_cons, List.not_mem_nil, or_false] at hx; rcases hx with h | h | h | h | h | h <;> rw [h] <;> first | rfl | exact hu.one | exact hu'.one) (fun w4 E _ => ?_)
    refine E.lds (.head _) rfl ?_
    exact hR _ _ _ E.toExt (hu.ext E.toExt) (hu'.ext E.toExt)
  · have he : clAt m a b = fmCl (fmAt m a b) (-1) := if_neg (by omega)
    rw [he] at hR
    replace E := E.drew
    (refine fad_of ?_)
    refine E.ld (by (exact .tail _ (.tail _ (.head _)))) rfl ?_
    (refine fad_of ?_)
    refine E.ld (by (exact .tail _ (.head _))) rfl ?_
    refine pn_ix hp (i := a) (by unfold AtM at ha; omega) (by unfold AtM at ha; omega) (fun b' o u hc hf => ?_)
    replace hf : Sl kFm Any w [] (pnAt m a).frames u := hf
    (refine fad_of ?_)
    refine ld_of ((hc.ext E.toExt).at 1 rfl) ?_
    (refine fad_of ?_)
    refine E.ld (by (exact .tail _ (.head _))) rfl ?_
    refine fm_ix hf (i := b) (by unfold AtM at ha; omega) (by unfold AtM nF at ha; omega) (fun b2' o2 u2 u3 hc2 hu hu' => ?_)
    replace hc2 : Cells w b2' o2 (cellsF (fmAt m a b) u2 u3) := hc2
    refine lds_of (hc2.ext E.toExt) rfl ?_
    refine c_frameCall hu.sl hu'.sl (fun w4 e4 => ?_)
    replace E := E.ext e4
    refine En.sts' (vs := cellsC (fmCl (fmAt m a b) (-1)) u2 u3) [] rfl E rfl rfl (by intro x hx; simp only [cellsC, List.mem_cons, List.not_mem_nil, or_false] at hx; rcases hx with h | h | h | h | h | h <;> rw [h] <;> first | rfl | exact hu.one | exact hu'.one) (fun w5 E _ => ?_)
    refine E.lds (.head _) rfl ?_
    exact hR _ _ _ E.toExt (hu.ext E.toExt) (hu'.ext E.toExt)
end
end Go.PT
namespace Go.PT
def usedF (fs : List Fm) : Int := (fs.map (fun f => 4 + (f.temps.length : Int) + 6)).sum
theorem used_full {p : Pg} {n : Int} : ∀ {fs : List Fm}, (∀ f ∈ fs, FormF p n f) → usedF fs = fullP p fs
  | [], _ => rfl
  | f :: fs, h => by
    have e := used_full (p := p) (n := n) (fs := fs) (fun g hg => h g (.tail _ hg))
    have h1 := (h f (.head _)).1.temps
    unfold usedF fullP at e ⊢
    rw [List.map_cons, List.sum_cons, List.map_cons, List.sum_cons, e]
    unfold sizeF
    have h1 : (f.temps.length : Int) = (methAt p f.method).temps := h1
    rw [h1]
theorem sum_take {α : Type} (f : α → Int) {l : List α} {i : Nat} {a : α} (h : l[i]? = some a) : ((l.take (i + 1)).map f).sum = ((l.take i).map f).sum + f a := by
  rw [List.take_add_one, h, List.map_append, List.sum_append]
  simp
theorem sum_bound {α : Type} (f : α → Int) (c : Int) : ∀ {l : List α}, (∀ a ∈ l, 0 ≤ f a ∧ f a ≤ c) → 0 ≤ (l.map f).sum ∧ (l.map f).sum ≤ c * l.length
  | [], _ => by simp
  | a :: l, h => by
    have h1 := h a (.head _)
    have h2 := sum_bound f c (l := l) (fun b hb => h b (.tail _ hb))
    rw [List.map_cons, List.sum_cons, List.length_cons, Int.natCast_succ, Int.mul_add]
    omega
attribute [local irreducible] ldT ldsT stT stsT allocT boxT bldT bslT nilT fadT ixaT fldT extT lenT pickT binT notT cviT opT opU condT clT clvT ivT loopT arT ndT World.cell? World.frozen? World.alloc World.drew World.setCell Blk Cells Sl
section
variable {m : Mc} {w : World} {up uo ut us : Value} {R : VW}
theorem c_caller {a b : Int} (V : MachV w m up uo ut us) (B : MB m) (ha : AtM m a b) (hR : ∀ w', Ext w w' → R (.tuple #[.agg #[.int .i64 (byOf m a b).1, .int .i64 (byOf m a b).2.1], .bool (byOf m a b).2.2.1, .bool (byOf m a b).2.2.2]) w') : clT PR 184 [.agg (machCells m up uo ut us).toArray, .agg #[.int .i64 a, .int .i64 b]] w R := by
  refine Fimpl_Mach_caller.cl ?_
  unfold Fimpl_Mach_caller
  have hp := V.pages
  have ht := V.twins
  have E := En.start w
  refine E.box (fun b1 w1 E _ => ?_)
  refine E.box (fun b2 w2 E _ => ?_)
  refine E.al (fun b3 w3 E _ => ?_)
  have fin : ∀ x, (if a < 0 then (twAt m b).left.sender else (pnAt m a).base) = x → ¬ (0 ≤ a ∧ 0 < b) → Fimpl_Mach_caller.j1 (.pointer (some ⟨b1, 0, none⟩)) (.pointer (some ⟨b3, 0, none⟩)) (.int .i64 x) w3 R := by
    intro x hx hn
    unfold Fimpl_Mach_caller.j1
    intro _
    (refine eql_of ?_)
    refine condP_of (fun he => ?_) (fun he => ?_)
    · have hb : byOf m a b = (0, 0, false, true) := by unfold byOf; rw [if_neg hn, hx, if_pos he]
      rw [hb] at hR
      refine bld_of (cs := #[.int .i64 0, .int .i64 0]) rfl ?_
      refine En.sts' (vs := [.int .i64 0, .int .i64 0]) [] rfl E rfl rfl (by simp [Value.oneCell']) (fun w4 E _ => ?_)
      refine E.lds (.head _) rfl ?_
      exact hR _ E.toExt
    · have hb : byOf m a b = ((plcOf m x).1, (plcOf m x).2.1, (plcOf m x).2.2, (plcOf m x).2.2) := by unfold byOf; rw [if_neg hn, hx, if_neg he]
      rw [hb] at hR
      refine E.lds (.tail _ (.tail _ (.head _))) rfl ?_
      refine c_placeOf (V.ext E.toExt) B (fun w4 e4 => ?_)
      replace E := E.ext e4
      refine ext_of rfl ?_
      refine ext_of rfl ?_
      refine En.sts' (vs := [.int .i64 (plcOf m x).1, .int .i64 (plcOf m x).2.1]) [] rfl E rfl rfl (by simp [Value.oneCell']) (fun w5 E _ => ?_)
      refine E.lds (.head _) rfl ?_
      refine En.sts' (vs := [.int .i64 (plcOf m x).1, .int .i64 (plcOf m x).2.1]) [] rfl E rfl rfl (by simp [Value.oneCell']) (fun w6 E _ => ?_)
      refine E.lds (.head _) rfl ?_
      exact hR _ E.toExt
  (refine fad_of ?_)
  refine E.ld (.tail _ (.head _)) rfl ?_
  (refine lss_of ?_)
  refine condLt_of (fun hl => ?_) (fun hl => ?_)
  · (refine fad_of ?_)
    refine E.ld (.tail _ (.tail _ (.head _))) rfl ?_
    (refine fad_of ?_)
    refine E.ld (.tail _ (.head _)) rfl ?_
    refine tw_ix ht (i := b) (by unfold AtM at ha; omega) (by unfold AtM at ha; omega) (fun b' o u u' hc hu hu' => ?_)
    (refine fad_of ?_)
    (refine fad_of ?_)
    refine ld_of ((hc.ext E.toExt).at 6 rfl) ?_
    exact fin _ (by rw [if_pos hl]; rfl) (by omega)
  · (refine fad_of ?_)
    refine E.ld (.tail _ (.head _)) rfl ?_
    (refine gtr_of ?_)
    refine condGt_of (fun hg => ?_) (fun hg => ?_)
    · have hb : byOf m a b = (a, b - 1, true, true) := by unfold byOf; rw [if_pos (by omega)]
      rw [hb] at hR
      have hbl : b ≤ 2097152 := by
        have := B.frames a
        unfold AtM nF at ha; omega
      (refine fad_of ?_)
      refine E.ld (.tail _ (.head _)) rfl ?_
      (refine fad_of ?_)
      refine E.ld (.tail _ (.head _)) rfl ?_
      (refine sub_of (by (omega)) (by (omega)) ?_)
      refine bld_of (cs := #[.int .i64 a, .int .i64 (b - 1)]) rfl ?_
      refine En.sts' (vs := [.int .i64 a, .int .i64 (b - 1)]) [] rfl E rfl rfl (by simp [Value.oneCell']) (fun w4 E _ => ?_)
      refine E.lds (.head _) rfl ?_
      exact hR _ E.toExt
    · (refine fad_of ?_)
      refine E.ld (.tail _ (.tail _ (.head _))) rfl ?_
      (refine fad_of ?_)
      refine E.ld (.tail _ (.head _)) rfl ?_
      refine pn_ix hp (i := a) (by unfold AtM at ha; omega) (by unfold AtM at ha; omega) (fun b' o u hc hf => ?_)
      (refine fad_of ?_)
      refine ld_of ((hc.ext E.toExt).at 0 rfl) ?_
      exact fin _ (by rw [if_neg (by omega)]; rfl) (by omega)
theorem c_machFrames (V : MachV w m up uo ut us) (B : MB m) (hR : ∀ w', Ext w w' → R (.int .i64 (framesN m)) w') : clT PR 41 [.agg (machCells m up uo ut us).toArray] w R := by
  refine Fimpl_MachFrames.cl ?_
  unfold Fimpl_MachFrames
  have hp := V.pages
  have hB := B.np
  have E := En.start w
  refine E.box (fun b1 w1 E _ => ?_)
  (refine fad_of ?_)
  refine E.ld (.head _) rfl ?_
  refine hp.len_of ?_
  refine loop_of (fun n s wx => ∃ i : Nat, s = [.int .i64 0, .int .i64 ((m.pages.take i).map (fun g => (g.frames.length : Int))).sum, up, .int .i64 m.pages.length, .int .i64 i] ∧ i ≤ m.pages.length ∧ n = m.pages.length - i ∧ Ext w wx) ?_ (m := m.pages.length) ⟨0, rfl, by omega, by omega, E.toExt⟩
  rintro n s wx Kn ⟨i, rfl, hi, hn, e⟩ hKn
  intro _
  simp only [List.headD_cons, List.tail_cons]
  (refine lss_of ?_)
  refine condLt_of (fun hl => ?_) (fun hl => ?_)
  · have hg : m.pages[i]? = some (m.pages.getD (i : Int).toNat pn0) := by rw [Int.toNat_natCast, List.getD_eq_getElem?_getD, List.getElem?_eq_getElem (by omega)]; rfl
    have hs := sum_take (fun g : Pn => (g.frames.length : Int)) hg
    have hb := sum_bound (fun g : Pn => (g.frames.length : Int)) 2097152 (l := m.pages.take i) (fun g hg => by have := (B.nf g (List.mem_of_mem_take hg)).1; omega)
    have hbl : (m.pages.take i).length ≤ 2097152 := by rw [List.length_take]; omega
    have hb2 := (B.nf _ (List.mem_of_getElem? hg)).1
    refine pn_ix hp (i := i) (by omega) hl (fun b o u hc hf => ?_)
    refine lds_of (hc.ext e) rfl ?_
    have E := En.start wx
    refine E.als (vs := [.int .i64 (m.pages.getD (i : Int).toNat pn0).base, u]) rfl rfl rfl (by intro x hx; simp at hx; rcases hx with rfl | rfl; rfl; exact hf.one) (fun b5 w5 E _ => ?_)
    (refine fad_of ?_)
    refine E.ld (.head _) rfl ?_
    refine hf.len_of ?_
    refine add_of (by omega) (by omega) ?_
    (refine add_of (by (omega)) (by (omega)) ?_)
    refine hKn (n - 1) _ _ (by omega) ⟨i + 1, ?_, by omega, by omega, e.trans E.toExt⟩
    rw [hs]; rfl
  · intro _
    have hi2 : i = m.pages.length := by omega
    subst hi2
    rw [List.take_length]
    exact hR _ e
theorem c_frameCells {f : Fm} {u v : Value} (hu : Sl kPair Any w [] f.temps u) (hl : f.temps.length ≤ 2097152) (hR : ∀ w', Ext w w' → R (.int .i64 (4 + (f.temps.length : Int) + 6)) w') : clT PR 226 [.agg (cellsF f u v).toArray] w R := by
  refine Fimpl_Frame_cells.cl ?_
  unfold Fimpl_Frame_cells
  have E := En.start w
  refine E.box (fun b1 w1 E _ => ?_)
  (refine fad_of ?_)
  refine E.ld (.head _) rfl ?_
  refine hu.len_of ?_
  (refine add_of (by (omega)) (by (omega)) ?_)
  (refine add_of (by (omega)) (by (omega)) ?_)
  exact hR _ E.toExt
theorem c_pageUsed {g : Pn} {u : Value} (hf : Sl kFm Any w [] g.frames u) (hl : g.frames.length ≤ 2097152) (ht : ∀ f ∈ g.frames, f.temps.length ≤ 2097152) (hR : ∀ w', Ext w w' → R (.int .i64 (usedF g.frames)) w') : clT PR 180 [.agg #[.int .i64 g.base, u]] w R := by
  refine Fimpl_Page_used.cl ?_
  unfold Fimpl_Page_used
  have E := En.start w
  refine E.box (fun b1 w1 E _ => ?_)
  (refine fad_of ?_)
  refine E.ld (.head _) rfl ?_
  refine hf.len_of ?_
  refine loop_of (fun n s wx => ∃ i : Nat, s = [.int .i64 0, .int .i64 (usedF (g.frames.take i)), u, .int .i64 g.frames.length, .int .i64 i] ∧ i ≤ g.frames.length ∧ n = g.frames.length - i ∧ Ext w wx) ?_ (m := g.frames.length) ⟨0, rfl, by omega, by omega, E.toExt⟩
  rintro n s wx Kn ⟨i, rfl, hi, hn, e⟩ hKn
  intro _
  simp only [List.headD_cons, List.tail_cons]
  (refine lss_of ?_)
  refine condLt_of (fun hlt => ?_) (fun hlt => ?_)
  · have hg : g.frames[i]? = some (fmOf g.frames i) := by unfold fmOf; rw [Int.toNat_natCast, List.getD_eq_getElem?_getD, List.getElem?_eq_getElem (by omega)]; rfl
    have hs := sum_take (fun f : Fm => 4 + (f.temps.length : Int) + 6) hg
    have hb := sum_bound (fun f : Fm => 4 + (f.temps.length : Int) + 6) 2097162 (l := g.frames.take i) (fun f hf => by have := ht f (List.mem_of_mem_take hf); omega)
    have hbl : (g.frames.take i).length ≤ 2097152 := by rw [List.length_take]; omega
    have hb2 := ht _ (List.mem_of_getElem? hg)
    refine fm_ix hf (i := i) (by omega) hlt (fun b o u2 v2 hc hu hv => ?_)
    refine lds_of (hc.ext e) rfl ?_
    have E := En.start wx
    refine E.als (vs := cellsF (fmOf g.frames i) u2 v2) rfl rfl rfl (by intro x hx; simp only [cellsF, List.mem_cons, List.not_mem_nil, or_false] at hx; rcases hx with h | h | h | h | h <;> rw [h] <;> first | rfl | exact hu.one | exact hv.one) (fun b5 w5 E _ => ?_)
    refine E.lds (.head _) rfl ?_
    refine c_frameCells ((hu.ext e).ext E.toExt) (by omega) (fun w6 e6 => ?_)
    replace E := E.ext e6
    unfold usedF
    refine add_of (by omega) (by omega) ?_
    (refine add_of (by (omega)) (by (omega)) ?_)
    refine hKn (n - 1) _ _ (by omega) ⟨i + 1, ?_, by omega, by omega, e.trans E.toExt⟩
    unfold usedF
    rw [hs]; rfl
  · intro _
    have hi2 : i = g.frames.length := by omega
    subst hi2
    rw [List.take_length]
    exact hR _ e
theorem c_indexInt {l : List Int} {x : Int} {q : List Nat} {v : Value} (h : Sl kInt Any w q l v) (hl : l.length ≤ 2097152) (hR : R (.int .i64 (if x ∈ l then (l.idxOf x : Int) else -1)) w) : clT PR 224 [v, .int .i64 x] w R := by
  refine Fslices_Index_int.cl ?_
  unfold Fslices_Index_int
  refine h.len_of ?_
  refine loop_of (fun n s wx => ∃ i : Nat, s = [v, .int .i64 x, .int .i64 0, .int .i64 l.length, .int .i64 i] ∧ i ≤ l.length ∧ n = l.length - i ∧ wx = w ∧ x ∉ l.take i) ?_ (m := l.length) ⟨0, rfl, by omega, by omega, rfl, by simp⟩
  rintro n s wx Kn ⟨i, rfl, hi, hn, rfl, hx⟩ hKn
  intro _
  simp only [List.headD_cons, List.tail_cons]
  (refine lss_of ?_)
  refine condLt_of (fun hlt => ?_) (fun hlt => ?_)
  · have hg : l[i]? = some (intAt l i) := by unfold intAt; rw [Int.toNat_natCast, List.getD_eq_getElem?_getD, List.getElem?_eq_getElem (by omega)]; rfl
    refine int_ix h (i := i) (by omega) hlt (fun b o hc => ?_)
    refine ld_of hc ?_
    (refine eql_of ?_)
    refine condP_of (fun he => ?_) (fun he => ?_)
    · intro _
      have hm : x ∈ l := by rw [he]; exact List.mem_of_getElem? hg
      have hi2 : l.idxOf x = i := by
        have e1 : l = l.take i ++ l.drop i := (List.take_append_drop i l).symm
        have e2 : l.drop i = x :: l.drop (i + 1) := by
          rw [List.drop_eq_getElem_cons (by omega)]
          congr 1
          rw [List.getElem?_eq_getElem (by omega)] at hg
          rw [he]; exact Option.some.inj hg
        conv => lhs; rw [e1]
        rw [List.idxOf_append, if_neg hx, e2]
        simp; omega
      rw [if_pos hm, hi2] at hR
      exact hR
    · (refine add_of (by (omega)) (by (omega)) ?_)
      refine hKn (n - 1) _ _ (by omega) ⟨i + 1, rfl, by omega, by omega, rfl, ?_⟩
      rw [List.take_add_one, hg]
      simp only [Option.toList_some, List.mem_append, List.mem_singleton, not_or]
      exact ⟨hx, he⟩
  · intro _
    have hi2 : i = l.length := by omega
    subst hi2
    rw [List.take_length] at hx
    rw [if_neg hx] at hR
    exact hR
end
end Go.PT
namespace Go.PT
variable {α : Type}
structure Chp (P : List Nat) (L : Lab) (w : World) (L' : Lab) (w' : World) : Prop where
  fr : Fr (fun b => ∃ r, L b = some (P ++ r)) w w'
  keep : ∀ b q, L b = some q → ¬ P <+: q → L' b = some q
  un : ∀ b, b < w.heap.size → L b = none → L' b = none
  lim : Lim L' w'
section
variable {P Q q : List Nat} {L L' L'' M : Lab} {w w' w'' : World}
theorem Chp.mu (c : Chp P L w L' w') : Mut L w L' w' := ⟨c.fr.to (fun b _ h => by obtain ⟨r, h⟩ := h; rw [h]; exact fun h => by cases h), c.un, c.lim⟩
theorem Chp.ext (e : Ext w w') (hl : Lim L w) : Chp P L w L w' := ⟨e.fr, fun _ _ h _ => h, fun _ _ h => h, hl.fr e⟩
theorem Chp.grw (g : Grw P L w L' w') (hl : Lim L w) : Chp P L w L' w' := ⟨g.fr.to (fun b _ h => ⟨[], by simpa using h⟩), fun b q h _ => g.lx.lab hl h, fun b hb hn => by rw [g.lx.old hb]; exact hn, g.lim⟩
theorem Sl.chg {kd : Kd α} {xs : List α} {v : Value} (h : Sl kd (Own L) w q xs v) (c : Chp P L w L' w') (hn : ∀ r, ¬ P <+: q ++ r) : Sl kd (Own L') w' q xs v :=
  h.own c.fr (fun b r hb => ⟨fun ⟨s, e⟩ => hn r ⟨s, by rw [hb] at e; exact (Option.some.inj e).symm⟩, c.keep b _ hb (hn r)⟩)
theorem Chp.off (c : Chp P L w L' w') {x : Nat} (hx : L x = some q) (hn : ¬ P <+: q) : ¬ ∃ r, L x = some (P ++ r) := fun ⟨s, e⟩ => hn ⟨s, by rw [hx] at e; exact (Option.some.inj e).symm⟩
theorem Blk.chg {x : Nat} {cs : List Value} (h : Blk w x cs) (c : Chp P L w L' w') (hx : L x = some q) (hn : ¬ P <+: q) : Blk w' x cs := h.fr c.fr (c.off hx hn)
theorem Cells.chg {x o : Nat} {cs : List Value} (h : Cells w x o cs) (c : Chp P L w L' w') (hx : L x = some q) (hn : ¬ P <+: q) : Cells w' x o cs := h.fr c.fr (c.off hx hn)
theorem pre_kid {q r P' : List Nat} {i : Nat} (h : q ++ i :: P' <+: q ++ r) : r.head? = some i := by
  rw [List.prefix_append_right_inj] at h
  cases r with
  | nil => simp at h
  | cons a r => rw [List.cons_prefix_cons] at h; simp [h.1]
theorem Sl.kidc {kd : Kd α} {P' : List Nat} {i b o : Nat} {xs : List α} {x' : α} {v : Value} {es : List Value} (h : Sl kd (Own L) w q xs v) (ha : At v kd.sz i b o) (hi : i < xs.length) (c : Chp (q ++ i :: P') L w L' w') (hes : Cells w b o es) (hel : es.length = kd.sz)
    (hK : kd.K (Own L') w' (q ++ [i]) x' es) : Sl kd (Own L') w' q (xs.set i x') v :=
  h.kid ha hi c.fr (fun x r hx hr => ⟨fun ⟨s, e⟩ => hr (pre_kid (P' := P') ⟨s, by rw [hx] at e; exact (Option.some.inj e).symm⟩), c.keep x _ hx (fun hp => hr (pre_kid hp))⟩) hes hel hK
def movL (L : Lab) (A B : List Nat) : Lab := fun b => (L b).map (fun q => if A.isPrefixOf q then B ++ q.drop A.length else q)
theorem movL_of {A B r : List Nat} {b : Nat} (h : L b = some (A ++ r)) : movL L A B b = some (B ++ r) := by
  unfold movL
  rw [h, Option.map_some, if_pos (by rw [List.isPrefixOf_iff_prefix]; exact List.prefix_append _ _), List.drop_left]
theorem movL_no {A B : List Nat} {b : Nat} (h : L b = some q) (hn : ¬ A <+: q) : movL L A B b = some q := by
  unfold movL
  rw [h, Option.map_some, if_neg (by rwa [List.isPrefixOf_iff_prefix])]
theorem movL_lim {A B : List Nat} (hl : Lim L w) : Lim (movL L A B) w := by
  intro b p h
  unfold movL at h
  cases hL : L b with
  | none => rw [hL] at h; cases h
  | some q => exact hl b q hL
theorem Chp.mov {A B : List Nat} (hl : Lim L w) : Chp A L w (movL L A B) w :=
  ⟨Fr.refl _ _, fun b q h hn => movL_no h hn, fun b _ h => by unfold movL; rw [h]; rfl, movL_lim hl⟩
theorem Sl.mov {kd : Kd α} {A B r : List Nat} {xs : List α} {v : Value} (h : Sl kd (Own L) w (A ++ r) xs v) : Sl kd (Own (movL L A B)) w (B ++ r) xs v :=
  h.own (Fr.refl No w) (fun b s hb => ⟨fun e => e, by rw [List.append_assoc] at hb ⊢; exact movL_of hb⟩)
end
theorem Sl.mapO {kd kd' : Kd α} {L : Lab} {w : World} {p : List Nat} {xs : List α} {v : Value} (hz : kd'.sz = kd.sz) (h : Sl kd (Own L) w p xs v) (hk : ∀ (i : Nat) x es, xs[i]? = some x → kd.K (Own L) w (p ++ [i]) x es → kd'.K (Own L) w (p ++ [i]) x es) : Sl kd' (Own L) w p xs v := by
  obtain ⟨A, cap, rfl, h2, h3⟩ := h
  refine ⟨A, cap, rfl, h2, ?_⟩
  rcases h3 with h3 | ⟨b, o, rfl, h4, h5⟩
  · exact .inl h3
  · refine .inr ⟨b, o, rfl, by rw [hz]; exact h4, fun i x hx => ?_⟩
    obtain ⟨es, k1, k2⟩ := h5 i x hx
    rw [hz]
    exact ⟨es, hk i x es hx k1, k2⟩
def kFmO : Kd Fm where
  sz := 5
  K := fun ok w p f cs => ∃ u v, (f.method ≠ -1 ∧ cs = cellsF f u v ∧ Sl kPair ok w (p ++ [2]) f.temps u ∧ Sl kPair ok w (p ++ [3]) f.stack v) ∨ (f.method = -1 ∧ ∃ a c, cs = [.int .i64 a, .int .i64 c, .int .i64 f.twin, u, v] ∧ u.oneCell' = true ∧ v.oneCell' = true)
  len := fun h => by
    obtain ⟨u, v, ⟨_, rfl, _⟩ | ⟨_, a, c, rfl, _⟩⟩ := h <;> rfl
  one := fun h v hv => by
    obtain ⟨u, u', ⟨_, rfl, hu, hu'⟩ | ⟨_, a, c, rfl, hu, hu'⟩⟩ := h
    · simp [cellsF] at hv
      rcases hv with rfl | rfl | rfl | rfl | rfl
      · rfl
      · rfl
      · rfl
      · exact hu.one
      · exact hu'.one
    · simp at hv
      rcases hv with rfl | rfl | rfl | rfl | rfl
      · rfl
      · rfl
      · rfl
      · exact hu
      · exact hu'
  frame := fun h hf => by
    obtain ⟨u, u', ⟨h0, rfl, hu, hu'⟩ | h⟩ := h
    · refine ⟨u, u', .inl ⟨h0, rfl, hu.frame (fun r b m ho => ?_), hu'.frame (fun r b m ho => ?_)⟩⟩ <;>
      · rw [List.append_assoc] at ho ⊢
        exact hf _ b m ho
    · exact ⟨u, u', .inr h⟩
def kPnO : Kd Pn where
  sz := 2
  K := fun ok w p g cs => ∃ u, cs = [.int .i64 g.base, u] ∧ Sl kFmO ok w (p ++ [1]) g.frames u
  len := fun h => by obtain ⟨u, rfl, _⟩ := h; rfl
  one := fun h v hv => by
    obtain ⟨u, rfl, hu⟩ := h
    simp at hv
    rcases hv with rfl | rfl
    · rfl
    · exact hu.one
  frame := fun h hf => by
    obtain ⟨u, rfl, hu⟩ := h
    refine ⟨u, rfl, hu.frame (fun r b m ho => ?_)⟩
    rw [List.append_assoc] at ho ⊢
    exact hf _ b m ho
def Plain (m : Mc) : Prop := ∀ g ∈ m.pages, ∀ f ∈ g.frames, f.method ≠ -1
theorem frames_given {L : Lab} {w : World} {p : List Nat} {fs : List Fm} {u : Value} (h : Sl kFm (Own L) w p fs u) (hp : ∀ f ∈ fs, f.method ≠ -1) : Sl kFmO (Own L) w p fs u :=
  h.mapO (kd' := kFmO) (show kFmO.sz = kFm.sz from rfl) (fun i f es hx hK => by
    obtain ⟨u, v, rfl, hu, hv⟩ := hK
    exact ⟨u, v, .inl ⟨hp f (List.mem_of_getElem? hx), rfl, hu, hv⟩⟩)
theorem frames_taken {L : Lab} {w : World} {p : List Nat} {fs : List Fm} {u : Value} (h : Sl kFmO (Own L) w p fs u) (hp : ∀ f ∈ fs, f.method ≠ -1) : Sl kFm (Own L) w p fs u :=
  h.mapO (kd' := kFm) (show kFm.sz = kFmO.sz from rfl) (fun i f es hx hK => by
    obtain ⟨u, v, ⟨_, rfl, hu, hv⟩ | ⟨h0, _⟩⟩ := hK
    · exact ⟨u, v, rfl, hu, hv⟩
    · exact absurd h0 (hp f (List.mem_of_getElem? hx)))
structure MM (L : Lab) (w : World) (b : Nat) (m : Mc) (up uo ut us : Value) (pre : List Value := []) : Prop where
  blk : Blk w b (pre ++ machCells m up uo ut us)
  lab : L b = some []
  pages : Sl kPnO (Own L) w [0] m.pages up
  order : Sl kInt (Own L) w [1] m.order uo
  twins : Sl kTw (Own L) w [2] m.twins ut
  said : Sl kPair (Own L) w [3] m.said us
  lim : Lim L w
structure PF (L : Lab) (w : World) (up : Value) (i : Int) (g : Pn) (bp op : Nat) (u : Value) : Prop where
  at' : At up 2 i.toNat bp op
  lab : L bp = some [0]
  cells : Cells w bp op [.int .i64 g.base, u]
  frames : Sl kFmO (Own L) w [0, i.toNat, 1] g.frames u
structure TF (L : Lab) (w : World) (ut : Value) (t : Int) (x : Tw) (b o : Nat) (u v : Value) : Prop where
  at' : At ut 8 t.toNat b o
  lab : L b = some [2]
  cells : Cells w b o (cellsT x u v)
  temps : Sl kPair (Own L) w [2, t.toNat, 2] x.left.temps u
  stack : Sl kPair (Own L) w [2, t.toNat, 3] x.left.stack v
section
variable {L L' : Lab} {w w' : World} {b bp op bf off : Nat} {m : Mc} {up uo ut us uf u v : Value} {i k t : Int} {f : Fm} {g : Pn} {x : Tw} {P P' : List Nat} {pre : List Value}
theorem MM.cell (S : MM L w b m up uo ut us pre) {j : Nat} {y : Value} (hv : (pre ++ machCells m up uo ut us)[j]? = some y) : w.cell? ⟨b, j, none⟩ = some y := S.blk.cell hv
theorem MM.ext (S : MM L w b m up uo ut us pre) (e : Ext w w') : MM L w' b m up uo ut us pre := ⟨S.blk.ext e, S.lab, S.pages.keepX e, S.order.keepX e, S.twins.keepX e, S.said.keepX e, S.lim.fr e⟩
theorem MM.drew (S : MM L w b m up uo ut us pre) : MM L w.drew b m up uo ut us pre := S.ext (Fr.refl _ _).drew
theorem MM.join {q : List Nat} {M : Lab} (S : MM L w b m up uo ut us pre) (hm : Lim M w) : MM (joinL L q M) w b m up uo ut us pre := ⟨S.blk, joinL_left S.lab, S.pages.inL, S.order.inL, S.twins.inL, S.said.inL, joinL_lim S.lim hm⟩
theorem PF.ext (F : PF L w up i g bp op u) (e : Ext w w') : PF L w' up i g bp op u := ⟨F.at', F.lab, F.cells.ext e, F.frames.keepX e⟩
theorem PF.join {q : List Nat} {M : Lab} (F : PF L w up i g bp op u) : PF (joinL L q M) w up i g bp op u := ⟨F.at', joinL_left F.lab, F.cells, F.frames.inL⟩
theorem TF.ext (F : TF L w ut t x b off u v) (e : Ext w w') : TF L w' ut t x b off u v := ⟨F.at', F.lab, F.cells.ext e, F.temps.keepX e, F.stack.keepX e⟩
theorem TF.drew (F : TF L w ut t x b off u v) : TF L w.drew ut t x b off u v := F.ext (Fr.refl _ _).drew
theorem MM.pix {K : Value → Prop} (S : MM L w b m up uo ut us pre) (h0 : 0 ≤ i) (h1 : i < m.pages.length) (hk : ∀ bp op u, PF L w up i (pnAt m i) bp op u → K (.pointer (some ⟨bp, op, none⟩))) : ixaT 2 up (.int .i64 i) K := by
  refine S.pages.ixo_of rfl h0 h1 (fun x bp op es mm hx ha ho hK hc => ?_)
  obtain ⟨u, rfl, hu⟩ := hK
  have e : pnAt m i = x := pnOf_of hx
  exact hk bp op u ⟨ha, ho.1, by rw [e]; exact hc, by rw [e]; exact hu⟩
theorem MM.tix {K : Value → Prop} (S : MM L w b m up uo ut us pre) (h0 : 0 ≤ t) (h1 : t < m.twins.length) (hk : ∀ b o u v, TF L w ut t (twAt m t) b o u v → K (.pointer (some ⟨b, o, none⟩))) : ixaT 8 ut (.int .i64 t) K := by
  refine S.twins.ixo_of rfl h0 h1 (fun x b o es mm hx ha ho hK hc => ?_)
  obtain ⟨u, v, rfl, hu, hv⟩ := hK
  have e : twAt m t = x := twOf_of hx
  exact hk b o u v ⟨ha, ho.1, by rw [e]; exact hc, by rw [e]; exact hu, by rw [e]; exact hv⟩
theorem At.det {v : Value} {sz i b o b' o' : Nat} (h : At v sz i b o) (k : At v sz i b' o') : b = b' ∧ o = o' := by
  obtain ⟨n, cap, o0, rfl, rfl⟩ := h
  obtain ⟨n', cap', o1, e, rfl⟩ := k
  injection e with e1 e2 e3
  injection e1 with e1
  injection e1 with e4 e5 e6
  subst e4 e5
  exact ⟨rfl, rfl⟩
theorem MM.pixF {K : Value → Prop} (S : MM L w b m up uo ut us pre) (F : PF L w up i g bp op u) (h0 : 0 ≤ i) (h1 : i < m.pages.length) (hk : K (.pointer (some ⟨bp, op, none⟩))) : ixaT 2 up (.int .i64 i) K := by
  refine S.pix h0 h1 (fun b' o' u' F' => ?_)
  obtain ⟨rfl, rfl⟩ := F.at'.det F'.at'
  exact hk
theorem MM.tixF {K : Value → Prop} {bt ot : Nat} (S : MM L w b m up uo ut us pre) (F : TF L w ut t x bt ot u v) (h0 : 0 ≤ t) (h1 : t < m.twins.length) (hk : K (.pointer (some ⟨bt, ot, none⟩))) : ixaT 8 ut (.int .i64 t) K := by
  refine S.tix h0 h1 (fun b' o' u' v' F' => ?_)
  obtain ⟨rfl, rfl⟩ := F.at'.det F'.at'
  exact hk
theorem Sl.elt {α : Type} {kd : Kd α} {ok : Ok} {p : List Nat} {xs : List α} {v : Value} {i : Int} (h : Sl kd ok w p xs v) (h0 : 0 ≤ i) (h1 : i < xs.length) : ∃ x b o es m, xs[i.toNat]? = some x ∧ At v kd.sz i.toNat b o ∧ ok w p b m ∧ kd.K ok w (p ++ [i.toNat]) x es ∧ Cells w b o es := by
  obtain ⟨A, cap, rfl, h2, h3⟩ := h
  have hi : i.toNat < xs.length := by omega
  rcases h3 with rfl | ⟨b, o, rfl, h4, h5⟩
  · omega
  · obtain ⟨es, k1, k2⟩ := h5 i.toNat xs[i.toNat] (by simp [hi])
    exact ⟨_, b, _, es, _, by simp [hi], ⟨_, _, _, rfl, rfl⟩, h4, k1, k2⟩
theorem MM.pf (S : MM L w b m up uo ut us pre) (h0 : 0 ≤ i) (h1 : i < m.pages.length) : ∃ bp op u, PF L w up i (pnAt m i) bp op u := by
  obtain ⟨x, bp, op, es, mm, hx, ha, ho, hK, hc⟩ := S.pages.elt h0 h1
  obtain ⟨u, rfl, hu⟩ := hK
  have e : pnAt m i = x := pnOf_of hx
  exact ⟨bp, op, u, ha, ho.1, by rw [e]; exact hc, by rw [e]; exact hu⟩
theorem MM.tf (S : MM L w b m up uo ut us pre) (h0 : 0 ≤ t) (h1 : t < m.twins.length) : ∃ bt ot u v, TF L w ut t (twAt m t) bt ot u v := by
  obtain ⟨x, bt, ot, es, mm, hx, ha, ho, hK, hc⟩ := S.twins.elt h0 h1
  obtain ⟨u, v, rfl, hu, hv⟩ := hK
  have e : twAt m t = x := twOf_of hx
  exact ⟨bt, ot, u, v, ha, ho.1, by rw [e]; exact hc, by rw [e]; exact hu, by rw [e]; exact hv⟩
theorem pn_get (h0 : 0 ≤ i) (h1 : i < m.pages.length) : m.pages[i.toNat]? = some (pnAt m i) := by
  unfold pnAt
  rw [List.getD_eq_getElem?_getD, List.getElem?_eq_getElem (by omega)]; rfl
theorem fm_get {fs : List Fm} (h0 : 0 ≤ k) (h1 : k < fs.length) : fs[k.toNat]? = some (fmOf fs k) := by
  unfold fmOf
  rw [List.getD_eq_getElem?_getD, List.getElem?_eq_getElem (by omega)]; rfl
theorem PF.chg (F : PF L w up i g bp op u) (c : Chp P L w L' w') (h0 : ¬ P <+: [0]) (hn : ∀ r, ¬ P <+: [0, i.toNat, 1] ++ r) : PF L' w' up i g bp op u :=
  ⟨F.at', c.keep _ _ F.lab h0, F.cells.chg c F.lab h0, F.frames.chg c hn⟩
theorem MM.chgPage {g' : Pn} (S : MM L w b m up uo ut us pre) (F : PF L w up i (pnAt m i) bp op u) (h0 : 0 ≤ i) (h1 : i < m.pages.length) (c : Chp (0 :: i.toNat :: P') L w L' w') (hb : g'.base = (pnAt m i).base) (hf : Sl kFmO (Own L') w' [0, i.toNat, 1] g'.frames u) :
    MM L' w' b (putPn m i g') up uo ut us pre ∧ PF L' w' up i g' bp op u := by
  have hl : L' bp = some [0] := c.keep _ _ F.lab (by simp)
  have hcs : Cells w' bp op [.int .i64 g'.base, u] := by rw [hb]; exact F.cells.chg c F.lab (by simp)
  refine ⟨⟨S.blk.chg c S.lab (by simp), c.keep _ _ S.lab (by simp), ?_, S.order.chg c (by simp), S.twins.chg c (by simp), S.said.chg c (by simp), c.lim⟩, ⟨F.at', hl, hcs, hf⟩⟩
  exact S.pages.kidc (q := [0]) (P' := P') F.at' (by omega) c F.cells rfl ⟨u, by rw [hb], hf⟩
theorem MM.pst {y : Value} {q : Nat} {g' : Pn} {u' : Value} {K : World → Prop} (S : MM L w b m up uo ut us pre) (F : PF L w up i (pnAt m i) bp op u) (h0 : 0 ≤ i) (h1 : i < m.pages.length)
    (hy : y.oneCell' = true) (hq : q + 1 ≤ 2) (hc : spl [.int .i64 (pnAt m i).base, u] q [y] = [.int .i64 g'.base, u']) (hf : Sl kFmO (Own L) w [0, i.toNat, 1] g'.frames u')
    (hk : ∀ w', Fr (fun z => z = bp) w w' → Mut L w L w' → MM L w' b (putPn m i g') up uo ut us pre → PF L w' up i g' bp op u' → K w') : stT (.pointer (some ⟨bp, op + q, none⟩)) y w K := by
  obtain ⟨hl, w', a1, a2, a3, a4⟩ := S.pages.puts (vs := [y]) (off := q) F.at' (by omega) hq (by simpa using hy)
  refine st_of_stN a1 ?_
  have hF := hf.other a2 hl (by simp)
  have hcs := a3 _ F.cells rfl
  rw [hc] at hcs
  refine hk w' a2 (Mut.at a2 hl S.lim) ⟨S.blk.other S.lab a2 hl (by simp), S.lab, a4 g' (fun es k1 k2 => ?_), S.order.other a2 hl (by simp), S.twins.other a2 hl (by simp), S.said.other a2 hl (by simp), S.lim.fr a2⟩ ⟨F.at', hl, hcs, hF⟩
  have : es = [.int .i64 (pnAt m i).base, u] := cells_det k2 F.cells (by rw [kPnO.len k1]; rfl)
  subst this
  rw [hc]
  exact ⟨u', rfl, hF⟩
theorem MM.pputE {g' : Pn} {u' : Value} {K : World → Prop} (S : MM L w b m up uo ut us pre) (F : PF L w up i (pnAt m i) bp op u) (h0 : 0 ≤ i) (h1 : i < m.pages.length) (hf : Sl kFmO (Own L) w [0, i.toNat, 1] g'.frames u')
    (hk : ∀ w', Fr (fun z => z = bp) w w' → Mut L w L w' → MM L w' b (putPn m i g') up uo ut us pre → PF L w' up i g' bp op u' → K w') : stsT 2 (.pointer (some ⟨bp, op, none⟩)) (.agg #[.int .i64 g'.base, u']) w K := by
  obtain ⟨hl, w', a1, a2, a3, a4⟩ := S.pages.puts (vs := [.int .i64 g'.base, u']) (off := 0) F.at' (by omega) (Nat.le_refl 2) (by intro z hz; simp at hz; rcases hz with rfl | rfl; rfl; exact hf.one)
  obtain ⟨A, n, c, rfl⟩ := hf.sl
  refine sts_of_stN (vs := [.int .i64 g'.base, .slice A n c]) rfl rfl a1 ?_
  have hF := hf.other a2 hl (by simp)
  have hcs := a3 _ F.cells rfl
  refine hk w' a2 (Mut.at a2 hl S.lim) ⟨S.blk.other S.lab a2 hl (by simp), S.lab, a4 g' (fun es k1 k2 => ?_), S.order.other a2 hl (by simp), S.twins.other a2 hl (by simp), S.said.other a2 hl (by simp), S.lim.fr a2⟩ ⟨F.at', hl, hcs, hF⟩
  have : es = [.int .i64 (pnAt m i).base, u] := cells_det k2 F.cells (by rw [kPnO.len k1]; rfl)
  subst this
  exact ⟨_, rfl, hF⟩
theorem MM.pput {g' : Pn} {u' : Value} {K : World → Prop} (S : MM L w b m up uo ut us pre) (F : PF L w up i (pnAt m i) bp op u) (h0 : 0 ≤ i) (h1 : i < m.pages.length) (hf : Sl kFmO (Own L) w [0, i.toNat, 1] g'.frames u')
    (hk : ∀ w', Mut L w L w' → MM L w' b (putPn m i g') up uo ut us pre → PF L w' up i g' bp op u' → K w') : stsT 2 (.pointer (some ⟨bp, op, none⟩)) (.agg #[.int .i64 g'.base, u']) w K :=
  S.pputE F h0 h1 hf (fun w' _ m S F => hk w' m S F)
theorem MM.chgTw {x' : Tw} {bt ot : Nat} (S : MM L w b m up uo ut us pre) (F : TF L w ut t (twAt m t) bt ot u v) (h0 : 0 ≤ t) (h1 : t < m.twins.length) (c : Chp (2 :: t.toNat :: P') L w L' w') (hK : kTw.K (Own L') w' [2, t.toNat] x' (cellsT (twAt m t) u v)) :
    MM L' w' b (putTw m t x') up uo ut us pre :=
  ⟨S.blk.chg c S.lab (by simp), c.keep _ _ S.lab (by simp), S.pages.chg c (by simp), S.order.chg c (by simp), S.twins.kidc (q := [2]) (P' := P') F.at' (by omega) c F.cells rfl hK, S.said.chg c (by simp), c.lim⟩
theorem MM.tput {x' : Tw} {u' v' : Value} {bt ot : Nat} {K : World → Prop} (S : MM L w b m up uo ut us pre) (F : TF L w ut t (twAt m t) bt ot u v) (h0 : 0 ≤ t) (h1 : t < m.twins.length) (ht : Sl kPair (Own L) w [2, t.toNat, 2] x'.left.temps u') (hs : Sl kPair (Own L) w [2, t.toNat, 3] x'.left.stack v')
    (hk : ∀ w', Fr (fun z => z = bt) w w' → Mut L w L w' → MM L w' b (putTw m t x') up uo ut us pre → TF L w' ut t x' bt ot u' v' → K w') : stsT 8 (.pointer (some ⟨bt, ot, none⟩)) (.agg (cellsT x' u' v').toArray) w K := by
  obtain ⟨hl, w', a1, a2, a3, a4⟩ := S.twins.puts (vs := cellsT x' u' v') (off := 0) F.at' (by omega) (Nat.le_refl 8) (by
    intro z hz
    simp only [cellsT, List.mem_cons, List.not_mem_nil, or_false] at hz
    rcases hz with h | h | h | h | h | h | h | h <;> rw [h] <;> first | rfl | exact ht.one | exact hs.one)
  obtain ⟨A, n, c, rfl⟩ := ht.sl
  obtain ⟨A', n', c', rfl⟩ := hs.sl
  refine sts_of_stN (vs := cellsT x' (.slice A n c) (.slice A' n' c')) rfl rfl a1 ?_
  have hT := ht.other a2 hl (by simp)
  have hS := hs.other a2 hl (by simp)
  refine hk w' a2 (Mut.at a2 hl S.lim) ⟨S.blk.other S.lab a2 hl (by simp), S.lab, S.pages.other a2 hl (by simp), S.order.other a2 hl (by simp), a4 x' (fun es k1 k2 => ?_), S.said.other a2 hl (by simp), S.lim.fr a2⟩ ⟨F.at', hl, a3 _ F.cells rfl, hT, hS⟩
  have : es = cellsT (twAt m t) u v := cells_det k2 F.cells (by rw [kTw.len k1]; rfl)
  subst this
  exact ⟨_, _, rfl, hT, hS⟩
theorem MM.stM {q : Nat} {y : Value} {m' : Mc} {up' uo' ut' us' : Value} {K : World → Prop} (S : MM L w b m up uo ut us pre) (hy : y.oneCell' = true) (ho : q < pre.length + 8)
    (hb : (pre ++ machCells m up uo ut us).set q y = pre ++ machCells m' up' uo' ut' us') (hp : Sl kPnO (Own L) w [0] m'.pages up') (hor : Sl kInt (Own L) w [1] m'.order uo') (ht : Sl kTw (Own L) w [2] m'.twins ut') (hs : Sl kPair (Own L) w [3] m'.said us')
    (hk : ∀ w', Mut L w L w' → Fr (fun x => x = b) w w' → MM L w' b m' up' uo' ut' us' pre → K w') : stT (.pointer (some ⟨b, q, none⟩)) y w K := by
  refine st_of' S.blk (by rw [List.length_append]; exact ho) hy (fun w' e hB => ?_)
  rw [hb] at hB
  exact hk w' (Mut.at e S.lab S.lim) e ⟨hB, S.lab, hp.other e S.lab (by simp), hor.other e S.lab (by simp), ht.other e S.lab (by simp), hs.other e S.lab (by simp), S.lim.fr e⟩
theorem MM.growR {q : Nat} (S : MM L w b m up uo ut us pre) (g : Grw [q] L w L' w') (hp : q = 0 → Sl kPnO (Own L') w' [0] m.pages up) (ho : q = 1 → Sl kInt (Own L') w' [1] m.order uo) (ht : q = 2 → Sl kTw (Own L') w' [2] m.twins ut) (hs : q = 3 → Sl kPair (Own L') w' [3] m.said us)
    (hq : q = 0 ∨ q = 1 ∨ q = 2 ∨ q = 3) : MM L' w' b m up uo ut us pre := by
  have c := Chp.grw g S.lim
  refine ⟨S.blk.chg c S.lab (by simp), c.keep _ _ S.lab (by simp), ?_, ?_, ?_, ?_, c.lim⟩
  · rcases hq with rfl | rfl | rfl | rfl
    · exact hp rfl
    all_goals exact S.pages.chg c (by simp)
  · rcases hq with rfl | rfl | rfl | rfl
    · exact S.order.chg c (by simp)
    · exact ho rfl
    all_goals exact S.order.chg c (by simp)
  · rcases hq with rfl | rfl | rfl | rfl
    · exact S.twins.chg c (by simp)
    · exact S.twins.chg c (by simp)
    · exact ht rfl
    · exact S.twins.chg c (by simp)
  · rcases hq with rfl | rfl | rfl | rfl
    · exact S.said.chg c (by simp)
    · exact S.said.chg c (by simp)
    · exact S.said.chg c (by simp)
    · exact hs rfl
end
end Go.PT
namespace Go.PT
section
variable {p : Pg} {m : Mc} {h : Hp} {ix : Sp → Int} {i k t : Int}
theorem pn_of_mem {g : Pn} (h : g ∈ m.pages) : ∃ i : Int, 0 ≤ i ∧ i < m.pages.length ∧ pnAt m i = g := by
  obtain ⟨n, hn, e⟩ := List.mem_iff_getElem.mp h
  exact ⟨n, by omega, by omega, by unfold pnAt; rw [Int.toNat_natCast, List.getD_eq_getElem?_getD, List.getElem?_eq_getElem hn, e]; rfl⟩
theorem fm_of_mem {fs : List Fm} {f : Fm} (h : f ∈ fs) : ∃ k : Int, 0 ≤ k ∧ k < fs.length ∧ fmOf fs k = f := by
  obtain ⟨n, hn, e⟩ := List.mem_iff_getElem.mp h
  exact ⟨n, by omega, by omega, by unfold fmOf; rw [Int.toNat_natCast, List.getD_eq_getElem?_getD, List.getElem?_eq_getElem hn, e]; rfl⟩
theorem tw_of_mem {x : Tw} (h : x ∈ m.twins) : ∃ t : Int, 0 ≤ t ∧ t < m.twins.length ∧ twAt m t = x := by
  obtain ⟨n, hn, e⟩ := List.mem_iff_getElem.mp h
  exact ⟨n, by omega, by omega, by unfold twAt; rw [Int.toNat_natCast, List.getD_eq_getElem?_getD, List.getElem?_eq_getElem hn, e]; rfl⟩
theorem full_ge (hp : progOk p = true) : ∀ fs : List Fm, 10 * (fs.length : Int) ≤ fullP p fs
  | [] => by unfold fullP; simp
  | f :: fs => by
    have h1 := full_ge hp fs
    have h2 := (size_range hp f.method).1
    unfold fullP at h1 ⊢
    rw [List.map_cons, List.sum_cons, List.length_cons, Int.natCast_succ]
    omega
theorem MOK.nf (M : MOK p m) (i0 : 0 ≤ i) (i1 : i < m.pages.length) : nF m i ≤ 6 := by
  have h1 := full_ge M.prog (pnAt m i).frames
  have h2 := (M.pn i i0 i1).full
  have h3 := M.cells2
  unfold nF; omega
theorem form_short (hp : progOk p = true) {n : Int} {c : Cl} (h : FormP p n c) : c.temps.length ≤ 2097152 ∧ c.stack.length ≤ 2097152 := by
  have h1 := h.temps
  have h2 := h.stack
  have h3 := (methOk_iff.mp (prog_meth hp h.m0 h.m1)).t1
  omega
theorem MOK.mb (M : MOK p m) (hs : m.said.length ≤ 2097152) : MB m := by
  have h1 := M.rooms2
  have h2 := M.olen
  have h3 := M.ntw
  have h4 := M.born2
  refine ⟨by omega, fun g hg => ?_, by omega, ⟨by omega, fun x hx => ?_⟩, hs⟩
  · obtain ⟨i, i0, i1, rfl⟩ := pn_of_mem hg
    have := M.nf i0 i1
    refine ⟨by unfold nF at this; omega, fun f hf => ?_⟩
    obtain ⟨k, k0, k1, rfl⟩ := fm_of_mem hf
    exact form_short M.prog ((M.pn i i0 i1).form k k0 k1).1
  · obtain ⟨t, t0, t1, rfl⟩ := tw_of_mem hx
    rcases Int.lt_or_le (twAt m t).page 0 with hp | hp
    · exact form_short M.prog ((M.tw t t0 t1).off hp).2.2
    · rw [((M.tw t t0 t1).on hp).2.2.2.2]; simp [call0]
theorem MOK.plain (M : MOK p m) : Plain m := by
  intro g hg f hf
  obtain ⟨i, i0, i1, rfl⟩ := pn_of_mem hg
  obtain ⟨k, k0, k1, rfl⟩ := fm_of_mem hf
  have := ((M.pn i i0 i1).form k k0 k1).1.m0
  have : 0 ≤ (fmOf (pnAt m i).frames k).method := this
  omega
theorem MB.fm (B : MB m) (i0 : 0 ≤ i) (i1 : i < m.pages.length) (k0 : 0 ≤ k) (k1 : k < nF m i) : (fmAt m i k).temps.length ≤ 2097152 ∧ (fmAt m i k).stack.length ≤ 2097152 :=
  (B.nf _ (List.mem_of_getElem? (pn_get i0 i1))).2 _ (List.mem_of_getElem? (fm_get k0 k1))
theorem MB.cl (B : MB m) (t0 : 0 ≤ t) (t1 : t < m.twins.length) : (twAt m t).left.temps.length ≤ 2097152 ∧ (twAt m t).left.stack.length ≤ 2097152 := by
  refine B.nt.2 _ ?_
  unfold twAt
  rw [List.getD_eq_getElem?_getD, List.getElem?_eq_getElem (by omega)]
  exact List.getElem_mem _
def relF (f : Fm) : Fm := ⟨-1, 0, f.twin, [], []⟩
variable {n : Nat}
theorem plc_off {t : Int} (t0 : 0 ≤ t) (t1 : t < m.twins.length) (hp : (twAt m t).page < 0) : plcOf m t = (-1, t, true) := by unfold plcOf; rw [if_pos ⟨t0, t1⟩, if_pos hp]
theorem plc_on (W : WF m) {t : Int} (t0 : 0 ≤ t) (t1 : t < m.twins.length) (hp : ¬ (twAt m t).page < 0) : plcOf m t = ((twAt m t).page, (twAt m t).at', true) ∧ AtM m (twAt m t).page (twAt m t).at' := by
  obtain ⟨a, b, c, d⟩ := (W.tF t t0 t1).2 (by omega)
  refine ⟨?_, .inr ⟨by omega, a, b, c⟩⟩
  unfold plcOf
  rw [if_pos ⟨t0, t1⟩, if_neg hp, decide_eq_true ⟨a, b, c⟩]
end
end Go.PT
namespace Go.PT
theorem sliceH_of {P : Program} {t sz : Nat} (hc : appB P t (P.elem t) sz = true) {A : Option Addr} {n cap : Nat} {h : Int} {w : World} {k : VW} (h0 : 0 ≤ h) (h2 : h ≤ cap) (hk : k (sliced A 0 h.toNat cap sz) w) :
    opT P (Instr.sliceAt t (.slice A n cap) none (some (.int .i64 h)) none) w k := by
  obtain ⟨ht, hs⟩ := slice_run hc
  unfold opT
  simp only [run_sliceAt_slice w t _ _ _ _ ht, run_slice_h w t A n cap ht .i64 h h0 h2, hs, Result.andThen_ok]
  exact hk
theorem sliced_no {A : Option Addr} {l h m s : Nat} (hm : m = l) : sliced A l h m s = .slice A (h - l) (m - l) := by unfold sliced; rw [if_pos hm]
theorem sliced_zero {b o h m s : Nat} : sliced (some ⟨b, o, none⟩) 0 h m s = .slice (some ⟨b, o, none⟩) h m := by
  unfold sliced
  by_cases hm : m = 0
  · rw [if_pos hm]; simp
  · rw [if_neg hm]; simp [Addr.add_lit]
theorem opR {P : Program} {m : Sem Value} {w w' : World} {v : Value} {k : VW} (h : m.run P w = .ok v w') (hk : k v w') : opT P m w k := by
  unfold opT
  simp only [h]
  exact hk
attribute [local irreducible] ldT ldsT stT stsT allocT boxT bldT bslT nilT fadT ixaT fldT extT lenT pickT binT notT cviT opT opU condT clT clvT ivT loopT arT ndT World.cell? World.frozen? World.alloc World.drew World.setCell Blk Cells Sl
end Go.PT
namespace Go.PT
def plS (m : Mc) (s : Sp) : V := if plP m s < 0 then (-1, s.twin) else (plP m s, plK m s)
section
variable {p : Pg} {m : Mc} {s b : Sp} {i k t : Int}
theorem plS_off (h : plP m s < 0) : plS m s = (-1, s.twin) := if_pos h
theorem plS_on (h : ¬ plP m s < 0) : plS m s = (plP m s, plK m s) := if_neg h
theorem plS_sp (W : WF m) (i0 : 0 ≤ i) (i1 : i < m.pages.length) (k0 : 0 ≤ k) (k1 : k < nF m i) : plS m (spAt m i k) = (i, k) := by
  obtain ⟨a, b⟩ := pl_sp W i0 i1 k0 k1
  rw [plS_on (by omega), a, b]
theorem plS_tw (t0 : 0 ≤ t) : plS m (twSp t) = if (twAt m t).page < 0 then (-1, t) else ((twAt m t).page, (twAt m t).at') := by
  obtain ⟨a, b⟩ := plP_tw (m := m) t0
  unfold plS
  rw [a, b]; rfl
theorem plc_tw (W : WF m) (t0 : 0 ≤ t) (t1 : t < m.twins.length) : plcOf m t = ((plS m (twSp t)).1, (plS m (twSp t)).2, true) := by
  rw [plS_tw t0]
  by_cases h : (twAt m t).page < 0
  · rw [if_pos h, plc_off t0 t1 h]
  · rw [if_neg h, (plc_on W t0 t1 h).1]
theorem at_pl (W : WF m) (hs : InM m s) : AtM m (plS m s).1 (plS m s).2 := by
  rcases place W hs with ⟨h1, h2, h3, h4, h5⟩ | ⟨h1, h2, h3, h4, h5⟩
  · rw [plS_off h1]; exact .inl ⟨show (-1 : Int) < 0 by decide, h2, h3⟩
  · rw [plS_on (by omega)]; exact .inr ⟨h1, h2, h3, h4⟩
theorem pl_inj (W : WF m) (hs : InM m s) (hb : InM m b) (e : plS m s = plS m b) : s = b := by
  rcases place W hs with ⟨h1, h2, h3, h4, h5⟩ | ⟨h1, h2, h3, h4, h5⟩ <;> rcases place W hb with ⟨k1, k2, k3, k4, k5⟩ | ⟨k1, k2, k3, k4, k5⟩
  · rw [plS_off h1, plS_off k1] at e
    rw [h4, k4]
    have := congrArg Prod.snd e
    simp only at this
    rw [this]
  · rw [plS_off h1, plS_on (by omega)] at e
    have := congrArg Prod.fst e
    simp only at this
    omega
  · rw [plS_on (by omega), plS_off k1] at e
    have := congrArg Prod.fst e
    simp only at this
    omega
  · rw [plS_on (by omega), plS_on (by omega)] at e
    have e1 := congrArg Prod.fst e
    have e2 := congrArg Prod.snd e
    simp only at e1 e2
    rw [← h5, ← k5, e1, e2]
theorem cl_pl (W : WF m) (hs : InM m s) : ClEq (clAt m (plS m s).1 (plS m s).2) (clOf m s) := by
  unfold clAt clOf
  rcases place W hs with ⟨h1, h2, h3, h4, h5⟩ | ⟨h1, h2, h3, h4, h5⟩
  · rw [plS_off h1, if_pos (show (-1 : Int) < 0 by decide), if_pos h1]; exact ClEq.refl _
  · rw [plS_on (by omega), if_neg (by show ¬ plP m s < 0; omega), if_neg (by omega)]
    exact ⟨rfl, rfl, rfl, rfl, rfl⟩
def plO (m : Mc) (s : Option Sp) : Int × Int × Bool × Bool := match s with | none => (0, 0, false, true) | some b => ((plS m b).1, (plS m b).2, true, true)
theorem by_to (W : WF m) {x : Int} (x0 : -1 ≤ x) (x1 : x < m.twins.length) :
    (if x = -1 then ((0, 0, false, true) : Int × Int × Bool × Bool) else ((plcOf m x).1, (plcOf m x).2.1, (plcOf m x).2.2, (plcOf m x).2.2)) = plO m (toSp x) := by
  by_cases h : x = -1
  · subst h; rfl
  · rw [if_neg h, plc_tw W (by omega) x1]
    unfold toSp
    rw [if_neg (by omega)]; rfl
theorem by_pl (W : WF m) (hs : InM m s) : byOf m (plS m s).1 (plS m s).2 = plO m (sndOf m s) := by
  unfold byOf sndOf
  rcases place W hs with ⟨h1, h2, h3, h4, h5⟩ | ⟨h1, h2, h3, h4, h5⟩
  · have hx := W.snd s.twin h2 h3 (by omega)
    rw [plS_off h1, if_neg (show ¬ (0 ≤ (-1 : Int) ∧ 0 < s.twin) from fun h => absurd h.1 (by decide)), if_pos h1]
    have e1 : (if ((-1 : Int), s.twin).1 < 0 then (twAt m ((-1 : Int), s.twin).2).left.sender else (pnAt m ((-1 : Int), s.twin).1).base) = (twAt m s.twin).left.sender := if_pos (show (-1 : Int) < 0 by decide)
    rw [e1]
    exact by_to W hx.1 hx.2
  · rw [plS_on (by omega)]
    simp only [if_neg (show ¬ plP m s < 0 by omega)]
    by_cases hk : 0 < plK m s
    · rw [if_pos ⟨h1, hk⟩, if_pos hk]
      show _ = ((plS m (spAt m (plP m s) (plK m s - 1))).1, (plS m (spAt m (plP m s) (plK m s - 1))).2, true, true)
      rw [plS_sp W h1 h2 (by omega) (by omega)]
    · rw [if_neg (by intro h; exact hk h.2), if_neg hk]
      have hx := W.base _ h1 h2
      exact by_to W hx.1 hx.2
theorem WayG.det {ν : Type} [DecidableEq ν] {g : Gr ν} : ∀ {l m : List ν} {a : Option ν}, WayG g a l → WayG g a m → l = m
  | [], [], _, _, _ => rfl
  | [], y :: m, none, _, h => h.elim
  | [], y :: m, some a, h, _ => h.elim
  | x :: l, [], none, h, _ => h.elim
  | x :: l, [], some a, _, h => h.elim
  | x :: l, y :: m, none, h, _ => h.elim
  | x :: l, y :: m, some a, ⟨h1, h2, h3⟩, ⟨k1, k2, k3⟩ => by
    subst h1 k1
    rw [WayG.det h3 k3]
theorem WayG.suf {ν : Type} [DecidableEq ν] {g : Gr ν} {x : ν} : ∀ {l1 l2 : List ν} {a : Option ν}, WayG g a (l1 ++ x :: l2) → WayG g (some x) (x :: l2)
  | [], l2, none, h => h.elim
  | [], l2, some a, ⟨h1, h2, h3⟩ => ⟨rfl, h2, h3⟩
  | y :: l1, l2, none, h => h.elim
  | y :: l1, l2, some a, ⟨h1, h2, h3⟩ => WayG.suf (l1 := l1) h3
theorem WayG.nodup {ν : Type} [DecidableEq ν] {g : Gr ν} : ∀ {l : List ν} {a : Option ν}, WayG g a l → l.Nodup
  | [], _, _ => List.nodup_nil
  | x :: l, none, h => h.elim
  | x :: l, some a, h => by
    refine List.nodup_cons.mpr ⟨fun hx => ?_, WayG.nodup h.2.2⟩
    obtain ⟨l1, l2, rfl⟩ := List.append_of_mem hx
    have h1 : a = x := h.1
    subst h1
    have e := WayG.det h (WayG.suf (l1 := a :: l1) h)
    have := congrArg List.length e
    simp at this
    omega
theorem WayG.all {ν : Type} [DecidableEq ν] {g : Gr ν} {D : ν → Prop} (hD : ∀ a, D a → ∀ b, g.sender a = some b → D b) : ∀ {l : List ν} {a : Option ν}, WayG g a l → (∀ x, a = some x → D x) → ∀ x ∈ l, D x ∧ g.dead x = false
  | [], _, _, _, x, hx => by cases hx
  | y :: l, none, h, _, x, hx => h.elim
  | y :: l, some a, ⟨h1, h2, h3⟩, ha, x, hx => by
    subst h1
    rcases List.mem_cons.mp hx with rfl | hx
    · exact ⟨ha _ rfl, h2⟩
    · exact WayG.all hD h3 (fun b hb => hD _ (ha _ rfl) b hb) x hx
theorem MOK.top_in (M : MOK p m) {b : Sp} (h : Go.PT.topSp m = some b) : InM m b := by
  unfold Go.PT.topSp at h
  split at h
  · rename_i hc
    obtain rfl := Option.some.inj h
    have := List.length_pos_iff.mpr hc.2.2
    exact in_sp M.wf hc.1 hc.2.1 (by unfold topK nF; omega) (by unfold topK; omega)
  · cases h
end
end Go.PT
namespace Go.PT
attribute [local irreducible] ldT ldsT stT stsT allocT boxT bldT bslT nilT fadT ixaT fldT extT lenT pickT binT notT cviT opT opU condT clT clvT ivT loopT arT ndT World.cell? World.frozen? World.alloc World.drew World.setCell Blk Cells Sl
section
variable {L : Lab} {w : World} {b : Nat} {m : Mc} {up uo ut us : Value} {R : VW}
theorem c_put {i t : Int} (S : MM L w b m up uo ut us) (i0 : 0 ≤ i) (i1 : i < m.pages.length) (t0 : 0 ≤ t) (t1 : t < m.twins.length) (hm : (twAt m t).left.method ≠ -1)
    (hR : ∀ w' L', Mut L w L' w' → MM L' w' b (loadM m t i) up uo ut us → R (.tuple #[]) w') : clT PR 100 [.pointer (some ⟨b, 0, none⟩), .int .i64 t, .int .i64 i] w R := by
  refine Fimpl_Mach_put.cl ?_
  unfold Fimpl_Mach_put
  have E := En.init S.lim
  obtain ⟨bt, ot, u, v, T⟩ := S.tf t0 t1
  (refine nil_of ?_)
  (refine fad_of ?_)
  refine ld_of (S.cell rfl) ?_
  refine S.tixF T t0 t1 ?_
  (refine fad_of ?_)
  refine lds_of (T.cells.part 2 6 (sub := cellsC (twAt m t).left u v) rfl) rfl ?_
  refine E.als (vs := cellsC (twAt m t).left u v) rfl rfl rfl (by intro x hx; simp only [cellsC, List.mem_cons, List.not_mem_nil, or_false] at hx; rcases hx with h | h | h | h | h | h <;> rw [h] <;> first | rfl | exact T.temps.one | exact T.stack.one) (fun b1 w1 E e1 => ?_)
  replace S := S.ext e1
  replace T := T.ext e1
  (refine nil_of ?_)
  (refine fad_of ?_)
  refine ld_of (S.cell rfl) ?_
  refine bld_of (cs := (cellsT ⟨i, 0, call0⟩ (.slice none 0 0) (.slice none 0 0)).toArray) rfl ?_
  refine S.tixF T t0 t1 ?_
  have hu := T.temps
  have hv := T.stack
  have hbt := T.lab
  refine S.tput (x' := ⟨i, 0, call0⟩) T t0 t1 Sl.none0 Sl.none0 (fun w3 e3 m3 S T => ?_)
  replace E := (E.call m3).drew
  replace hu := (hu.other e3 hbt (by simp)).drewX
  replace hv := (hv.other e3 hbt (by simp)).drewX
  replace S := S.drew
  replace T := T.drew
  (refine nil_of ?_)
  (refine fad_of ?_)
  refine ld_of (S.cell rfl) ?_
  (refine fad_of ?_)
  refine E.ld (.head _) rfl ?_
  refine E.lds (.head _) rfl ?_
  refine c_callFrame hu.sl hv.sl (fun w4 e4 => ?_)
  replace E := E.ext e4
  replace S := S.ext e4
  replace T := T.ext e4
  replace hu := hu.keepX e4
  replace hv := hv.keepX e4
  refine ⟨E.ld (.head _) rfl rfl, ?_⟩
  refine ⟨ld_of (S.cell rfl) rfl, ?_⟩
  refine bsl_of' rfl rfl rfl (fun b5 w5 e5 hb5 k5 => ?_)
  replace k5 : Blk w5 b5 (cellsF (clFm (twAt m t).left t) u v) := k5
  have hap : Apart L (lab1 b5 [0, i.toNat, 1]) := apart_of S.lim (lab1_born hb5)
  have hl5 := k5.lt
  replace E := E.join [] e5 (lab1_born (p := [0, i.toNat, 1]) hb5) (lab1_lim (p := [0, i.toNat, 1]) hl5)
  replace S := (S.ext e5).join (q := []) (lab1_lim (p := [0, i.toNat, 1]) hl5)
  replace T : TF (joinL L [] (lab1 b5 [0, i.toNat, 1])) w5 ut t ⟨i, 0, call0⟩ bt ot (.slice none 0 0) (.slice none 0 0) := ⟨T.at', joinL_left T.lab, T.cells.ext e5, Sl.none0, Sl.none0⟩
  replace hu := (hu.keepX e5).inL (q := []) (M := lab1 b5 [0, i.toNat, 1])
  replace hv := (hv.keepX e5).inL (q := []) (M := lab1 b5 [0, i.toNat, 1])
  have hb5 : joinL L [] (lab1 b5 [0, i.toNat, 1]) b5 = some [0, i.toNat, 1] := joinL_right (by simp [lab1]) (hap b5 [0, i.toNat, 1] (by simp [lab1]))
  generalize joinL L [] (lab1 b5 [0, i.toNat, 1]) = L5 at E S T hu hv hb5
  have c : Chp [2, t.toNat] L5 w5 (movL L5 [2, t.toNat] [0, i.toNat, 1, 0]) w5 := Chp.mov S.lim
  have hself : twAt (putTw m t ⟨i, 0, call0⟩) t = ⟨i, 0, call0⟩ := by rw [twAt_put t0 t1 t0, if_pos rfl]
  replace S := S.chgTw (P' := []) (x' := ⟨i, 0, call0⟩) (by rw [hself]; exact T) t0 (by rw [putTw_len]; exact t1) c (by rw [hself]; exact ⟨_, _, rfl, Sl.none0, Sl.none0⟩)
  have hpp : putTw (putTw m t ⟨i, 0, call0⟩) t ⟨i, 0, call0⟩ = putTw m t ⟨i, 0, call0⟩ := by unfold putTw; simp
  rw [hpp] at S
  replace hu := Sl.mov (A := [2, t.toNat]) (B := [0, i.toNat, 1, 0]) (r := [2]) hu
  replace hv := Sl.mov (A := [2, t.toNat]) (B := [0, i.toNat, 1, 0]) (r := [3]) hv
  replace hb5 := movL_no (B := [0, i.toNat, 1, 0]) hb5 (show ¬ [2, t.toNat] <+: [0, i.toNat, 1] by simp)
  replace E := E.call c.mu
  have hfr : Sl kFmO (Own (movL L5 [2, t.toNat] [0, i.toNat, 1, 0])) w5 [0, i.toNat, 1] [clFm (twAt m t).left t] (.slice (some ⟨b5, 0, none⟩) 1 1) :=
    sl_one k5 ⟨u, v, .inl ⟨hm, rfl, hu, hv⟩⟩ (k5.own hb5 (Nat.le_refl 5))
  clear c hu hv T
  generalize movL L5 [2, t.toNat] [0, i.toNat, 1, 0] = L6 at E S hfr hb5
  refine ⟨E.ld (.head _) rfl rfl, ?_⟩
  refine ⟨ld_of (S.cell rfl) rfl, ?_⟩
  refine bld_of (cs := #[.int .i64 (twAt m t).left.sender, .slice (some ⟨b5, 0, none⟩) 1 1]) rfl ?_
  refine S.pix i0 i1 (fun bp op uf F => ?_)
  refine S.pput (g' := ⟨(twAt m t).left.sender, [clFm (twAt m t).left t]⟩) F i0 i1 hfr (fun w6 m6 S F => ?_)
  exact hR _ _ (E.call m6).mu S
end
end Go.PT
namespace Go.PT
theorem fill_tw {p : Int} {c : Cl} {u v : Value} : fillT #[(.int .i64 0), (.int .i64 0), (.int .i64 0), (.int .i64 0), (.slice none 0 0), (.slice none 0 0), (.int .i64 0), (.bool false)] [(0, 1, (.int .i64 p)), (2, 6, (.agg (cellsC c u v).toArray))] = some (cellsT ⟨p, 0, c⟩ u v).toArray := by kernel_rfl
theorem rel_K {ok : Ok} {w : World} {p : List Nat} {f : Fm} {u v : Value} (hu : u.oneCell' = true) (hv : v.oneCell' = true) : kFmO.K ok w p (relF f) (cellsF f u v) := ⟨u, v, .inr ⟨rfl, f.method, f.pc, rfl, hu, hv⟩⟩
attribute [local irreducible] ldT ldsT stT stsT allocT boxT bldT bslT nilT fadT ixaT fldT extT lenT pickT binT notT cviT opT opU condT clT clvT ivT loopT arT ndT World.cell? World.frozen? World.alloc World.drew World.setCell Blk Cells Sl
end Go.PT
namespace Go.PT
theorem fill_pg {x : Int} {A : Option Addr} {n c : Nat} : fillT #[(.int .i64 0), (.slice none 0 0)] [(0, 1, (.int .i64 x)), (1, 1, .slice A n c)] = some #[.int .i64 x, .slice A n c] := by kernel_rfl
attribute [local irreducible] ldT ldsT stT stsT allocT boxT bldT bslT nilT fadT ixaT fldT extT lenT pickT binT notT cviT opT opU condT clT clvT ivT loopT arT ndT World.cell? World.frozen? World.alloc World.drew World.setCell Blk Cells Sl
end Go.PT
namespace Go.PT
section
variable {p : Pg} {m : Mc} {h : Hp} {ix : Sp → Int} {i k : Int}
theorem drop_set {α : Type} {l : List α} {x : α} {n : Nat} (hn : n = l.length - 1) : (l.set n x).dropLast = l.dropLast := by
  subst hn
  refine List.ext_getElem? fun j => ?_
  rw [List.getElem?_dropLast, List.getElem?_dropLast, List.length_set]
  split
  · rw [List.getElem?_set_ne (by omega)]
  · rfl
end
attribute [local irreducible] ldT ldsT stT stsT allocT boxT bldT bslT nilT fadT ixaT fldT extT lenT pickT binT notT cviT opT opU condT clT clvT ivT loopT arT ndT World.cell? World.frozen? World.alloc World.drew World.setCell Blk Cells Sl
end Go.PT
namespace Go.PT
structure FrS (p : Pg) (m : Mc) (i k : Int) : Prop where
  form : FormF p m.twins.length (fmAt m i k)
  tells : 0 ≤ (fmAt m i k).twin → (twAt m (fmAt m i k).twin).page = i ∧ (twAt m (fmAt m i k).twin).at' = k
structure SH (p : Pg) (m : Mc) : Prop where
  pn : ∀ i : Int, 0 ≤ i → i < m.pages.length → PnOk p m i
  tw : ∀ t : Int, 0 ≤ t → t < m.twins.length → TwOk p m t
structure PnS (p : Pg) (m : Mc) (i : Int) : Prop where
  b0 : -1 ≤ (pnAt m i).base
  b1 : (pnAt m i).base < m.twins.length
  empty : (pnAt m i).frames = [] → (pnAt m i).base = -1
  used : usedF (pnAt m i).frames ≤ m.cells
  based : (plcOf m (pnAt m i).base).2.2 = true → 0 ≤ (plcOf m (pnAt m i).base).1 → (plcOf m (pnAt m i).base).2.1 = nF m (plcOf m (pnAt m i).base).1 - 1
  fr : ∀ k : Int, 0 ≤ k → k < nF m i → FrS p m i k
section
variable {p : Pg} {m : Mc} {i k t : Int}
theorem MOK.sh (M : MOK p m) : SH p m := ⟨M.pn, M.tw⟩
theorem used_of (h : ∀ k : Int, 0 ≤ k → k < nF m i → FormF p m.twins.length (fmAt m i k)) : usedF (pnAt m i).frames = fullP p (pnAt m i).frames :=
  used_full (n := m.twins.length) (fun f hf => by
    obtain ⟨k, k0, k1, rfl⟩ := fm_of_mem hf
    exact h k k0 k1)
theorem plc_ok {b : Int} (h : (plcOf m b).2.2 = true) (h0 : 0 ≤ (plcOf m b).1) : 0 ≤ b ∧ b < m.twins.length ∧ 0 ≤ (twAt m b).page ∧ (plcOf m b).1 = (twAt m b).page ∧ (plcOf m b).2.1 = (twAt m b).at' ∧ (twAt m b).page < m.pages.length ∧ 0 ≤ (twAt m b).at' ∧ (twAt m b).at' < nF m (twAt m b).page := by
  unfold plcOf at h h0 ⊢
  by_cases h1 : 0 ≤ b ∧ b < m.twins.length
  · rw [if_pos h1] at h h0 ⊢
    by_cases h2 : (twAt m b).page < 0
    · rw [if_pos h2] at h0; exact absurd h0 (show ¬ (0 : Int) ≤ -1 by decide)
    · rw [if_neg h2] at h ⊢
      have h3 := of_decide_eq_true h
      exact ⟨h1.1, h1.2, by omega, rfl, rfl, h3⟩
  · rw [if_neg h1] at h; cases h
theorem PnOk.pnS (P : PnOk p m i) : PnS p m i := by
  refine ⟨P.b0, P.b1, P.empty, ?_, fun h h0 => ?_, fun k k0 k1 => ⟨P.form k k0 k1, P.tells k k0 k1⟩⟩
  · rw [used_of P.form]; exact P.full
  · obtain ⟨a, b, c, d, e, f, g, h⟩ := plc_ok h h0
    rw [d, e]
    exact P.based a c
theorem sh_of (hp : ∀ i : Int, 0 ≤ i → i < m.pages.length → PnS p m i) (ht : ∀ t : Int, 0 ≤ t → t < m.twins.length → TwOk p m t) : SH p m := by
  refine ⟨fun i i0 i1 => ?_, ht⟩
  have P := hp i i0 i1
  refine ⟨P.b0, P.b1, P.empty, fun k k0 k1 => (P.fr k k0 k1).form, fun k k0 k1 => (P.fr k k0 k1).tells, ?_, fun b0 pg => ?_⟩
  · rw [← used_of (fun k k0 k1 => (P.fr k k0 k1).form)]; exact P.used
  · obtain ⟨q1, q2, q3, q4⟩ := (ht _ b0 P.b1).on pg
    have e : plcOf m (pnAt m i).base = ((twAt m (pnAt m i).base).page, (twAt m (pnAt m i).base).at', true) := by
      unfold plcOf
      rw [if_pos ⟨b0, P.b1⟩, if_neg (by omega), decide_eq_true ⟨q1, q2, q3⟩]
    have h := P.based
    rw [e] at h
    exact h rfl pg
end
attribute [local irreducible] ldT ldsT stT stsT allocT boxT bldT bslT nilT fadT ixaT fldT extT lenT pickT binT notT cviT opT opU condT clT clvT ivT loopT arT ndT World.cell? World.frozen? World.alloc World.drew World.setCell Blk Cells Sl
section
variable {m : Mc} {w : World} {up uo ut us : Value} {R : VW}
theorem c_empty {c : Cl} {u v : Value} (hu : Sl kPair Any w [] c.temps u) (hv : Sl kPair Any w [] c.stack v) (hR : ∀ w' bb, Ext w w' → (bb = true ↔ c = call0) → R (.bool bb) w') : clT PR 183 [.agg (cellsC c u v).toArray] w R := by
  obtain ⟨met, pc, ts, ss, sd, dd⟩ := c
  refine Fimpl_Call_empty.cl ?_
  unfold Fimpl_Call_empty
  have E := En.start w
  refine E.box (fun b1 w1 E _ => ?_)
  have no : ¬ (⟨met, pc, ts, ss, sd, dd⟩ : Cl) = call0 → R (.bool false) w1 := fun h => hR _ _ E.toExt ⟨fun h' => (nomatch h'), fun h' => absurd h' h⟩
  (refine fad_of ?_)
  refine E.ld (.head _) rfl ?_
  (refine eql_of ?_)
  refine condP_of (fun e1 => ?_) (fun h => no (fun e => h (by rw [e]; rfl)))
  (refine fad_of ?_)
  refine E.ld (.head _) rfl ?_
  (refine eql_of ?_)
  refine condP_of (fun e2 => ?_) (fun h => no (fun e => h (by rw [e]; rfl)))
  (refine fad_of ?_)
  refine E.ld (.head _) rfl ?_
  refine hu.len_of ?_
  (refine eql_of ?_)
  refine condP_of (fun e3 => ?_) (fun h => no (fun e => h (by rw [e]; rfl)))
  (refine fad_of ?_)
  refine E.ld (.head _) rfl ?_
  refine hv.len_of ?_
  (refine eql_of ?_)
  refine condP_of (fun e4 => ?_) (fun h => no (fun e => h (by rw [e]; rfl)))
  (refine fad_of ?_)
  refine E.ld (.head _) rfl ?_
  (refine eql_of ?_)
  refine condP_of (fun e5 => ?_) (fun h => no (fun e => h (by rw [e]; rfl)))
  (refine fad_of ?_)
  refine E.ld (.head _) rfl ?_
  (refine not_of ?_)
  refine hR _ _ E.toExt ?_
  simp only at e1 e2 e3 e4 e5
  have e3 : ts = [] := List.length_eq_zero_iff.mp (by omega)
  have e4 : ss = [] := List.length_eq_zero_iff.mp (by omega)
  subst e1 e2 e3 e4 e5
  cases dd
  · exact ⟨fun _ => rfl, fun _ => rfl⟩
  · exact ⟨fun h => (nomatch h), fun h => (by cases h)⟩
theorem sh_inner {p : Pg} {u uf x20 x21 : Value} {b1 b2 : Nat} {i : Int} {Kn Kb Kr : LW} {ws : World} (V : MachV w m up uo ut us) (B : MB m) (hp : Sl kMeth Any w [] p u) (hpl : p.length ≤ 1073741824)
    (E : En noL w noL ws [(b2, [u]), (b1, machCells m up uo ut us)]) (i0 : 0 ≤ i) (i1 : i < m.pages.length) (hf : Sl kFm Any w [] (pnAt m i).frames uf)
    (hKn : (∀ k : Int, 0 ≤ k → k < nF m i → FrS p m i k) → ∀ wy, En noL w noL wy [(b2, [u]), (b1, machCells m up uo ut us)] → Kn [.pointer (some ⟨b1, 0, none⟩), .pointer (some ⟨b2, 0, none⟩), .bool false, .int .i64 m.twins.length, x20, x21, .int .i64 (i + 1)] wy)
    (hKr : ¬ (∀ k : Int, 0 ≤ k → k < nF m i → FrS p m i k) → ∀ wy, Ext w wy → Kr [.pointer (some ⟨b1, 0, none⟩), .pointer (some ⟨b2, 0, none⟩), .bool false, .int .i64 m.twins.length, x20, x21, .int .i64 i] wy) :
    loopT (fun s w Kn Kb Kr => Fimpl_Mach_shaped.l2 (s.headD undef) (s.tail.headD undef) (s.tail.tail.headD undef) (s.tail.tail.tail.headD undef) (s.tail.tail.tail.tail.headD undef) (s.tail.tail.tail.tail.tail.headD undef) (s.tail.tail.tail.tail.tail.tail.headD undef) (s.tail.tail.tail.tail.tail.tail.tail.headD undef) (s.tail.tail.tail.tail.tail.tail.tail.tail.headD undef) (s.tail.tail.tail.tail.tail.tail.tail.tail.tail.headD undef) (s.tail.tail.tail.tail.tail.tail.tail.tail.tail.tail.headD undef) w Kn Kb Kr) [.pointer (some ⟨b1, 0, none⟩), .pointer (some ⟨b2, 0, none⟩), .bool false, .int .i64 m.twins.length, .int .i64 i, x20, x21, .int .i64 i, uf, .int .i64 (pnAt m i).frames.length, .int .i64 0] ws
      (fun s w => Fimpl_Mach_shaped.k3 (s.headD undef) (s.tail.headD undef) (s.tail.tail.headD undef) (s.tail.tail.tail.headD undef) (s.tail.tail.tail.tail.headD undef) (s.tail.tail.tail.tail.tail.headD undef) (s.tail.tail.tail.tail.tail.tail.headD undef) (s.tail.tail.tail.tail.tail.tail.tail.headD undef) (s.tail.tail.tail.tail.tail.tail.tail.tail.headD undef) (s.tail.tail.tail.tail.tail.tail.tail.tail.tail.headD undef) (s.tail.tail.tail.tail.tail.tail.tail.tail.tail.tail.headD undef) w Kn Kb Kr)
      (fun s w => Fimpl_Mach_shaped.r4 (s.headD undef) (s.tail.headD undef) (s.tail.tail.headD undef) (s.tail.tail.tail.headD undef) (s.tail.tail.tail.tail.headD undef) (s.tail.tail.tail.tail.tail.headD undef) (s.tail.tail.tail.tail.tail.tail.headD undef) (s.tail.tail.tail.tail.tail.tail.tail.headD undef) (s.tail.tail.tail.tail.tail.tail.tail.tail.headD undef) (s.tail.tail.tail.tail.tail.tail.tail.tail.tail.headD undef) (s.tail.tail.tail.tail.tail.tail.tail.tail.tail.tail.headD undef) w Kn Kb Kr) := by
  have hB := B.frames i
  have hBt := B.nt.1
  have hBp := B.np
  refine loop_of (fun n s wx => ∃ k : Nat, s = [.pointer (some ⟨b1, 0, none⟩), .pointer (some ⟨b2, 0, none⟩), .bool false, .int .i64 m.twins.length, .int .i64 i, x20, x21, .int .i64 i, uf, .int .i64 (pnAt m i).frames.length, .int .i64 k] ∧ k ≤ (pnAt m i).frames.length ∧ n = (pnAt m i).frames.length - k ∧ (∀ j : Int, 0 ≤ j → j < k → FrS p m i j) ∧ En noL w noL wx [(b2, [u]), (b1, machCells m up uo ut us)]) ?_ (m := (pnAt m i).frames.length) ⟨0, rfl, by omega, by omega, fun j j0 j1 => by omega, E⟩
  rintro n s wx Ko ⟨k, rfl, hk, hn, hfr, E⟩ hKo
  intro _
  simp only [List.headD_cons, List.tail_cons]
  have e0 := E.toExt
  (refine lss_of ?_)
  refine condLt_of (fun hlt => ?_) (fun hge => ?_)
  · refine fm_ix hf (i := k) (by omega) hlt (fun b o u2 v2 hc hu hv => ?_)
    have hbf := B.fm i0 i1 (k := k) (by omega) (by unfold nF; omega)
    replace hc : Cells w b o (cellsF (fmAt m i k) u2 v2) := hc
    replace hu : Sl kPair Any w [] (fmAt m i k).temps u2 := hu
    replace hv : Sl kPair Any w [] (fmAt m i k).stack v2 := hv
    refine lds_of (hc.ext e0) rfl ?_
    refine E.als (vs := cellsF (fmAt m i k) u2 v2) rfl rfl rfl (by intro x hx; simp only [cellsF, List.mem_cons, List.not_mem_nil, or_false] at hx; rcases hx with h | h | h | h | h <;> rw [h] <;> first | rfl | exact hu.one | exact hv.one) (fun b5 w5 E _ => ?_)
    replace E := E.drew
    have bad : ¬ FrS p m i k → ∀ wy, Ext w wy → Kr [.pointer (some ⟨b1, 0, none⟩), .pointer (some ⟨b2, 0, none⟩), .bool false, .int .i64 m.twins.length, x20, x21, .int .i64 i] wy := fun h wy e => hKr (fun ha => h (ha k (by omega) (by unfold nF; omega))) wy e
    refine E.lds (.head _) rfl ?_
    refine E.lds (.tail _ (.head _)) rfl ?_
    refine c_frameCall hu.sl hv.sl (fun w6 e6 => ?_)
    replace E := E.ext e6
    refine ⟨E.lds (.tail _ (.head _)) rfl rfl, ?_⟩
    have e1 := E.toExt
    refine c_formed (c := fmCl (fmAt m i k) (-1)) (hp.ext e1) (hu.ext e1) (hv.ext e1) hpl (by have := hbf.1; show (fmAt m i k).temps.length ≤ _; omega) (by have := hbf.2; show (fmAt m i k).stack.length ≤ _; omega) (by omega) (by omega) (fun w7 e7 => ?_)
    replace E := E.ext e7
    (refine not_of ?_)
    refine condN_of (fun h1 => ?_) (fun h1 => ?_)
    · intro _
      refine bad (fun F => ?_) _ E.toExt
      rw [form_iff.mpr F.form.1] at h1
      cases h1
    (refine fad_of ?_)
    refine E.ld (.head _) rfl ?_
    (refine sub_of (by (omega)) (by (omega)) ?_)
    refine c_implIn ?_
    (refine not_of ?_)
    refine condNIn_of (fun h2 => ?_) (fun h2 => ?_)
    · intro _
      exact bad (fun F => h2 ⟨F.form.2.1, by have := F.form.2.2; omega⟩) _ E.toExt
    have hform : FormF p m.twins.length (fmAt m i k) := ⟨form_iff.mp h1, h2.1, by omega⟩
    have go : FrS p m i k → Ko [.pointer (some ⟨b1, 0, none⟩), .pointer (some ⟨b2, 0, none⟩), .bool false, .int .i64 m.twins.length, .int .i64 i, x20, x21, .int .i64 i, uf, .int .i64 (pnAt m i).frames.length, .int .i64 ((k : Int) + 1)] w7 := fun F => hKo (n - 1) _ _ (by omega) ⟨k + 1, rfl, by omega, by omega, fun j j0 j1 => by
        rcases Int.lt_or_le j k with h | h
        · exact hfr j j0 h
        · have : j = k := by omega
          subst this; exact F, E.pop⟩
    (refine fad_of ?_)
    refine E.ld (.head _) rfl ?_
    (refine geq_of ?_)
    refine condGe_of (fun h3 => ?_) (fun h3 => ?_)
    · (refine fad_of ?_)
      refine E.ld (.tail _ (.tail _ (.head _))) rfl ?_
      (refine fad_of ?_)
      refine E.ld (.head _) rfl ?_
      refine tw_ix (V.twins.ext E.toExt) (i := (fmAt m i k).twin) h3 (by omega) (fun b' o' u3 v3 hc3 hu3 hv3 => ?_)
      (refine fad_of ?_)
      refine ld_of (hc3.at 0 rfl) ?_
      (refine neq_of ?_)
      refine condNe_of (fun h4 => ?_) (fun h4 => ?_)
      · intro _
        exact bad (fun F => h4 (F.tells h3).1) _ E.toExt
      (refine fad_of ?_)
      refine E.ld (.tail _ (.tail _ (.head _))) rfl ?_
      (refine fad_of ?_)
      refine E.ld (.head _) rfl ?_
      refine tw_ix (V.twins.ext E.toExt) (i := (fmAt m i k).twin) h3 (by omega) (fun b' o' u3 v3 hc3 hu3 hv3 => ?_)
      (refine fad_of ?_)
      refine ld_of (hc3.at 1 rfl) ?_
      (refine neq_of ?_)
      refine condNe_of (fun h5 => ?_) (fun h5 => ?_)
      · intro _
        exact bad (fun F => h5 (F.tells h3).2) _ E.toExt
      (refine add_of (by (omega)) (by (omega)) ?_)
      exact go ⟨hform, fun _ => ⟨h4, h5⟩⟩
    · (refine add_of (by (omega)) (by (omega)) ?_)
      exact go ⟨hform, fun h => by omega⟩
  · intro _
    (refine add_of (by (omega)) (by (omega)) ?_)
    refine hKn (fun j j0 j1 => hfr j j0 ?_) _ E
    unfold nF at j1; omega
theorem sh_twins {p : Pg} {u x20 x21 x22 : Value} {b1 b2 : Nat} {R : VW} {ws : World} (V : MachV w m up uo ut us) (B : MB m) (hp : Sl kMeth Any w [] p u) (hpl : p.length ≤ 1073741824)
    (E : En noL w noL ws [(b2, [u]), (b1, machCells m up uo ut us)])
    (hR : ∀ w' bb, Ext w w' → (bb = true ↔ ∀ t : Int, 0 ≤ t → t < m.twins.length → TwOk p m t) → R (.bool bb) w') :
    Fimpl_Mach_shaped.k10 (.pointer (some ⟨b1, 0, none⟩)) (.pointer (some ⟨b2, 0, none⟩)) (.bool false) (.int .i64 m.twins.length) x20 x21 x22 ws R := by
  unfold Fimpl_Mach_shaped.k10
  intro _
  have hBt := B.nt.1
  have hBp := B.np
  (refine fad_of ?_)
  refine E.ld (.tail _ (.head _)) rfl ?_
  refine V.twins.len_of ?_
  refine loop_of (fun n s wx => ∃ k : Nat, s = [.pointer (some ⟨b1, 0, none⟩), .pointer (some ⟨b2, 0, none⟩), .bool false, .int .i64 m.twins.length, ut, .int .i64 m.twins.length, .int .i64 k] ∧ k ≤ m.twins.length ∧ n = m.twins.length - k ∧ (∀ j : Int, 0 ≤ j → j < k → TwOk p m j) ∧ En noL w noL wx [(b2, [u]), (b1, machCells m up uo ut us)]) ?_ (m := m.twins.length) ⟨0, rfl, by omega, by omega, fun j j0 j1 => by omega, E⟩
  rintro n s wx Ko ⟨k, rfl, hk, hn, hfr, E⟩ hKo
  intro _
  simp only [List.headD_cons, List.tail_cons]
  have e0 := E.toExt
  (refine lss_of ?_)
  refine condLt_of (fun hlt => ?_) (fun hge => ?_)
  · refine tw_ix (V.twins) (i := k) (by omega) hlt (fun b o u2 v2 hc hu hv => ?_)
    have hbf := B.cl (t := k) (by omega) hlt
    replace hc : Cells w b o (cellsT (twAt m k) u2 v2) := hc
    replace hu : Sl kPair Any w [] (twAt m k).left.temps u2 := hu
    replace hv : Sl kPair Any w [] (twAt m k).left.stack v2 := hv
    refine lds_of (hc.ext e0) rfl ?_
    refine E.als (vs := cellsT (twAt m k) u2 v2) rfl rfl rfl (by intro x hx; simp only [cellsT, List.mem_cons, List.not_mem_nil, or_false] at hx; rcases hx with h | h | h | h | h | h | h | h <;> rw [h] <;> first | rfl | exact hu.one | exact hv.one) (fun b5 w5 E _ => ?_)
    have bad : ¬ TwOk p m k → ∀ wy, Ext w wy → R (.bool false) wy := fun h wy e => hR _ _ e ⟨fun h' => (nomatch h'), fun h' => absurd (h' k (by omega) hlt) h⟩
    refine E.lds (.tail _ (.tail _ (.head _))) rfl ?_
    refine c_placeOf (V.ext E.toExt) B (fun w6 e6 => ?_)
    replace E := E.ext e6
    refine ext_of rfl ?_
    refine ext_of rfl ?_
    refine E.als (vs := [.int .i64 (plcOf m k).1, .int .i64 (plcOf m k).2.1]) rfl rfl rfl (by simp [Value.oneCell']) (fun b7 w7 E _ => ?_)
    have go : TwOk p m k → ∀ wy, En noL w noL wy [(b2, [u]), (b1, machCells m up uo ut us)] → Ko [.pointer (some ⟨b1, 0, none⟩), .pointer (some ⟨b2, 0, none⟩), .bool false, .int .i64 m.twins.length, ut, .int .i64 m.twins.length, .int .i64 ((k : Int) + 1)] wy := fun F wy E => hKo (n - 1) _ _ (by omega) ⟨k + 1, rfl, by omega, by omega, fun j j0 j1 => by
        rcases Int.lt_or_le j k with h | h
        · exact hfr j j0 h
        · have : j = k := by omega
          subst this; exact F, E⟩
    by_cases hpg : (twAt m k).page < 0
    · have he : plcOf m k = (-1, (k : Int), true) := by unfold plcOf; rw [if_pos ⟨by omega, hlt⟩, if_pos hpg]
      rw [he] at E ⊢
      (refine not_of ?_)
      refine condN_of (fun h => nomatch h) (fun _ => ?_)
      (refine fad_of ?_)
      refine E.ld (.head _) rfl ?_
      (refine lss_of ?_)
      refine condLt_of (fun _ => ?_) (fun h => absurd h (by show ¬ (0 : Int) ≤ -1; decide))
      (refine fad_of ?_)
      refine E.ld (.tail _ (.head _)) rfl ?_
      (refine neq_of ?_)
      refine condNe_of (fun h1 => ?_) (fun h1 => ?_)
      · intro _
        exact bad (fun T => h1 (T.off hpg).1) _ E.toExt
      (refine fad_of ?_)
      refine E.ld (.tail _ (.head _)) rfl ?_
      (refine neq_of ?_)
      refine condNe_of (fun h2 => ?_) (fun h2 => ?_)
      · intro _
        exact bad (fun T => h2 (T.off hpg).2.1) _ E.toExt
      (refine fad_of ?_)
      refine E.part (sub := cellsC (twAt m k).left u2 v2) (.tail _ (.head _)) rfl rfl ?_
      refine E.lds (.tail _ (.tail _ (.head _))) rfl ?_
      have e1 := E.toExt
      refine c_formed (c := (twAt m k).left) (hp.ext e1) (hu.ext e1) (hv.ext e1) hpl (by omega) (by omega) (by omega) (by omega) (fun w8 e8 => ?_)
      replace E := E.ext e8
      (refine not_of ?_)
      refine condN_of (fun h3 => ?_) (fun h3 => ?_)
      · intro _
        refine bad (fun T => ?_) _ E.toExt
        rw [form_iff.mpr (T.off hpg).2.2] at h3
        cases h3
      replace E := E.drew
      (refine fad_of ?_)
      refine E.ld (.head _) rfl ?_
      (refine geq_of ?_)
      refine condGe_of (fun h => absurd h (by show ¬ (0 : Int) ≤ -1; decide)) (fun _ => ?_)
      (refine add_of (by (omega)) (by (omega)) ?_)
      exact go ⟨fun _ => ⟨h1, h2, form_iff.mp h3⟩, fun h => by omega⟩ _ E.pop.pop
    · have he : plcOf m k = ((twAt m k).page, (twAt m k).at', decide ((twAt m k).page < m.pages.length ∧ 0 ≤ (twAt m k).at' ∧ (twAt m k).at' < nF m (twAt m k).page)) := by unfold plcOf; rw [if_pos ⟨by omega, hlt⟩, if_neg hpg]
      rw [he] at E ⊢
      (refine not_of ?_)
      refine condN_of (fun h => ?_) (fun hok => ?_)
      · intro _
        refine bad (fun T => ?_) _ E.toExt
        obtain ⟨q1, q2, q3, q4⟩ := T.on (by omega)
        exact (of_decide_eq_false h) ⟨q1, q2, q3⟩
      have hok := of_decide_eq_true hok
      (refine fad_of ?_)
      refine E.ld (.head _) rfl ?_
      (refine lss_of ?_)
      refine condLt_of (fun h => absurd h hpg) (fun _ => ?_)
      replace E := E.drew
      (refine fad_of ?_)
      refine E.ld (.head _) rfl ?_
      (refine geq_of ?_)
      refine condGe_of (fun _ => ?_) (fun h => absurd h hpg)
      (refine fad_of ?_)
      refine E.part (sub := cellsC (twAt m k).left u2 v2) (.tail _ (.head _)) rfl rfl ?_
      refine c_empty (c := (twAt m k).left) (hu.ext E.toExt) (hv.ext E.toExt) (fun w8 bb e8 hbb => ?_)
      replace E := E.ext e8
      (refine not_of ?_)
      refine condN_of (fun h1 => ?_) (fun h1 => ?_)
      · intro _
        refine bad (fun T => ?_) _ E.toExt
        rw [hbb.mpr (T.on (by omega)).2.2.2.2] at h1
        cases h1
      (refine fad_of ?_)
      refine E.ld (.tail _ (.tail _ (.tail _ (.head _)))) rfl ?_
      (refine fad_of ?_)
      refine E.ld (.head _) rfl ?_
      refine pn_ix (V.pages.ext E.toExt) (i := (twAt m k).page) (by omega) hok.1 (fun b' o' u3 hc3 hf3 => ?_)
      (refine fad_of ?_)
      refine ld_of (hc3.at 1 rfl) ?_
      (refine fad_of ?_)
      refine E.ld (.head _) rfl ?_
      refine fm_ix hf3 (i := (twAt m k).at') hok.2.1 hok.2.2 (fun b'' o'' u4 v4 hc4 hu4 hv4 => ?_)
      (refine fad_of ?_)
      refine ld_of (hc4.at 2 rfl) ?_
      (refine neq_of ?_)
      refine condNe_of (fun h2 => ?_) (fun h2 => ?_)
      · intro _
        exact bad (fun T => h2 (T.on (by omega)).2.2.2.1) _ E.toExt
      (refine add_of (by (omega)) (by (omega)) ?_)
      exact go ⟨fun h => absurd h hpg, fun _ => ⟨hok.1, hok.2.1, hok.2.2, h2, hbb.mp h1⟩⟩ _ E.pop.pop
  · intro _
    exact hR _ _ E.toExt ⟨fun _ t t0 t1 => hfr t t0 (by omega), fun _ => rfl⟩
theorem c_shaped {p : Pg} {u : Value} (V : MachV w m up uo ut us) (B : MB m) (hp : Sl kMeth Any w [] p u) (hpl : p.length ≤ 1073741824)
    (hR : ∀ w' bb, Ext w w' → (bb = true ↔ SH p m) → R (.bool bb) w') : clT PR 112 [.agg (machCells m up uo ut us).toArray, .agg #[u]] w R := by
  refine Fimpl_Mach_shaped.cl ?_
  unfold Fimpl_Mach_shaped
  have hBt := B.nt.1
  have hBp := B.np
  have E := En.start w
  refine E.box (fun b1 w1 E _ => ?_)
  refine E.box (fun b2 w2 E _ => ?_)
  (refine fad_of ?_)
  refine E.ld (.tail _ (.head _)) rfl ?_
  refine V.twins.len_of ?_
  (refine fad_of ?_)
  refine E.ld (.tail _ (.head _)) rfl ?_
  refine V.pages.len_of ?_
  refine loop_of (fun n s wx => ∃ k : Nat, s = [.pointer (some ⟨b1, 0, none⟩), .pointer (some ⟨b2, 0, none⟩), .bool false, .int .i64 m.twins.length, up, .int .i64 m.pages.length, .int .i64 k] ∧ k ≤ m.pages.length ∧ n = m.pages.length - k ∧ (∀ j : Int, 0 ≤ j → j < k → PnS p m j) ∧ En noL w noL wx [(b2, [u]), (b1, machCells m up uo ut us)]) ?_ (m := m.pages.length) ⟨0, rfl, by omega, by omega, fun j j0 j1 => by omega, E⟩
  rintro n s wx Ko ⟨k, rfl, hk, hn, hfr, E⟩ hKo
  intro _
  simp only [List.headD_cons, List.tail_cons]
  have e0 := E.toExt
  (refine lss_of ?_)
  refine condLt_of (fun hlt => ?_) (fun hge => ?_)
  · refine pn_ix V.pages (i := k) (by omega) hlt (fun b o uf hc hf => ?_)
    have hbf := B.frames k
    have hbn := B.nf _ (List.mem_of_getElem? (pn_get (i := (k : Int)) (by omega) hlt))
    replace hc : Cells w b o [.int .i64 (pnAt m k).base, uf] := hc
    replace hf : Sl kFm Any w [] (pnAt m k).frames uf := hf
    refine lds_of (hc.ext e0) rfl ?_
    refine E.als (vs := [.int .i64 (pnAt m k).base, uf]) rfl rfl rfl (by intro x hx; simp at hx; rcases hx with rfl | rfl; rfl; exact hf.one) (fun b5 w5 E _ => ?_)
    replace E := E.drew
    have bad : ∀ x, ¬ PnS p m k → ∀ wy, Ext w wy → Fimpl_Mach_shaped.r14 (.pointer (some ⟨b1, 0, none⟩)) (.pointer (some ⟨b2, 0, none⟩)) (.bool false) (.int .i64 m.twins.length) up (.int .i64 m.pages.length) x wy R := fun x h wy e => by
      intro _
      exact hR _ _ e ⟨fun h' => (nomatch h'), fun h' => absurd ((h'.pn k (by omega) hlt).pnS) h⟩
    have go : PnS p m k → ∀ wy, En noL w noL wy [(b2, [u]), (b1, machCells m up uo ut us)] → Ko [.pointer (some ⟨b1, 0, none⟩), .pointer (some ⟨b2, 0, none⟩), .bool false, .int .i64 m.twins.length, up, .int .i64 m.pages.length, .int .i64 ((k : Int) + 1)] wy := fun F wy E => hKo (n - 1) _ _ (by omega) ⟨k + 1, rfl, by omega, by omega, fun j j0 j1 => by
        rcases Int.lt_or_le j k with h | h
        · exact hfr j j0 h
        · have : j = k := by omega
          subst this; exact F, E⟩
    (refine fad_of ?_)
    refine E.ld (.head _) rfl ?_
    (refine sub_of (by (omega)) (by (omega)) ?_)
    refine c_implIn ?_
    (refine not_of ?_)
    refine condNIn_of (fun h1 => ?_) (fun h1 => ?_)
    · exact bad _ (fun P => h1 ⟨P.b0, by have := P.b1; omega⟩) _ E.toExt
    (refine fad_of ?_)
    refine E.ld (.head _) rfl ?_
    refine hf.len_of ?_
    (refine eql_of ?_)
    have tail : ((pnAt m k).frames = [] → (pnAt m k).base = -1) → True := fun _ => trivial
    refine condP_of (fun h2 => ?_) (fun h2 => ?_)
    rotate_left
    have hem : (pnAt m k).frames = [] → (pnAt m k).base = -1 := fun h => by rw [h] at h2; exact absurd rfl h2
    rotate_left
    (refine fad_of ?_)
    refine E.ld (.head _) rfl ?_
    (refine neq_of ?_)
    refine condNe_of (fun h3 => ?_) (fun h3 => ?_)
    · exact bad _ (fun P => h3 (P.empty (List.length_eq_zero_iff.mp (by omega)))) _ E.toExt
    have hem : (pnAt m k).frames = [] → (pnAt m k).base = -1 := fun _ => h3
    all_goals
      refine E.lds (.head _) rfl ?_
      (refine fad_of ?_)
      refine E.ld (.tail _ (.tail _ (.head _))) rfl ?_
      refine c_pageUsed (g := pnAt m k) (hf.ext E.toExt) hbf (fun f hf => (hbn.2 f hf).1) (fun w6 e6 => ?_)
      replace E := E.ext e6
      refine ⟨E.ld (.tail _ (.tail _ (.head _))) rfl rfl, ?_⟩
      (refine gtr_of ?_)
      refine condGt_of (fun h4 => ?_) (fun h4 => ?_)
      · exact bad _ (fun P => by have := P.used; omega) _ E.toExt
      refine E.lds (.tail _ (.tail _ (.head _))) rfl ?_
      (refine fad_of ?_)
      refine E.ld (.head _) rfl ?_
      refine c_placeOf (V.ext E.toExt) B (fun w7 e7 => ?_)
      replace E := E.ext e7
      refine ext_of rfl ?_
      refine ext_of rfl ?_
      refine E.als (vs := [.int .i64 (plcOf m (pnAt m k).base).1, .int .i64 (plcOf m (pnAt m k).base).2.1]) rfl rfl rfl (by simp [Value.oneCell']) (fun b8 w8 E _ => ?_)
      replace E := E.drew
      have fin : ((plcOf m (pnAt m k).base).2.2 = true → 0 ≤ (plcOf m (pnAt m k).base).1 → (plcOf m (pnAt m k).base).2.1 = nF m (plcOf m (pnAt m k).base).1 - 1) → (∀ j : Int, 0 ≤ j → j < nF m k → FrS p m k j) → PnS p m k := fun hb hfs => ⟨h1.1, by omega, hem, h4, hb, hfs⟩
      refine cond_of (fun h5 => ?_) (fun h5 => ?_)
      · (refine fad_of ?_)
        refine E.ld (.head _) rfl ?_
        (refine geq_of ?_)
        refine condGe_of (fun h6 => ?_) (fun h6 => ?_)
        · obtain ⟨q1, q2, q3, q4, q5, q6, q7, q8⟩ := plc_ok h5 h6
          have hbq := B.frames (plcOf m (pnAt m k).base).1
          (refine fad_of ?_)
          refine E.ld (.head _) rfl ?_
          (refine fad_of ?_)
          refine E.ld (.tail _ (.tail _ (.tail _ (.head _)))) rfl ?_
          (refine fad_of ?_)
          refine E.ld (.head _) rfl ?_
          refine pn_ix (V.pages.ext E.toExt) (i := (plcOf m (pnAt m k).base).1) h6 (by omega) (fun b' o' u3 hc3 hf3 => ?_)
          replace hf3 : Sl kFm Any _ [] (pnAt m (plcOf m (pnAt m k).base).1).frames u3 := hf3
          (refine fad_of ?_)
          refine ld_of (hc3.at 1 rfl) ?_
          refine hf3.len_of ?_
          (refine sub_of (by (omega)) (by (omega)) ?_)
          (refine neq_of ?_)
          refine condNe_of (fun h7 => ?_) (fun h7 => ?_)
          · exact bad _ (fun P => h7 (P.based h5 h6)) _ E.toExt
          (refine fad_of ?_)
          refine E.ld (.tail _ (.head _)) rfl ?_
          refine hf.len_of ?_
          exact sh_inner V B hp hpl E.pop.pop (by omega) hlt hf (fun hfs wy E => go (fin (fun _ _ => h7) hfs) wy E) (fun hno wy e => bad _ (fun P => hno P.fr) _ e)
        · (refine fad_of ?_)
          refine E.ld (.tail _ (.head _)) rfl ?_
          refine hf.len_of ?_
          exact sh_inner V B hp hpl E.pop.pop (by omega) hlt hf (fun hfs wy E => go (fin (fun _ h => by omega) hfs) wy E) (fun hno wy e => bad _ (fun P => hno P.fr) _ e)
      · (refine fad_of ?_)
        refine E.ld (.tail _ (.head _)) rfl ?_
        refine hf.len_of ?_
        exact sh_inner V B hp hpl E.pop.pop (by omega) hlt hf (fun hfs wy E => go (fin (fun h => by rw [h] at h5; cases h5) hfs) wy E) (fun hno wy e => bad _ (fun P => hno P.fr) _ e)
  · refine sh_twins V B hp hpl E (fun w' bb e hbb => hR _ _ e (hbb.trans ⟨fun ht => sh_of (fun i i0 i1 => hfr i i0 (by omega)) ht, fun S => S.tw⟩))
end
end Go.PT
