/- What the claim of FnMoveBack leans on, part 13 of 16. -/
import Derived.Laws.Small
import Derived.Test.YthdpnpckmoffaaaGreatMoveBack00
import Derived.Test.YthdpnpckmoffaaaGreatMoveBack01
import Derived.Test.YthdpnpckmoffaaaGreatMoveBack02
import Derived.Test.YthdpnpckmoffaaaGreatMoveBack03
import Derived.Test.YthdpnpckmoffaaaGreatMoveBack04
import Derived.Test.YthdpnpckmoffaaaGreatMoveBack05
import Derived.Test.YthdpnpckmoffaaaGreatMoveBack06
import Derived.Test.YthdpnpckmoffaaaGreatMoveBack07
import Derived.Test.YthdpnpckmoffaaaGreatMoveBack08
import Derived.Test.YthdpnpckmoffaaaGreatMoveBack09
import Derived.Test.YthdpnpckmoffaaaGreatMoveBack10
import Derived.Test.YthdpnpckmoffaaaGreatMoveBack11
set_option linter.unusedVariables false
set_option linter.unusedSimpArgs false
set_option linter.unusedSectionVars false
set_option maxRecDepth 100000
namespace Go.PT
open Go.Proofs
def Fspec_l71Heap (t0 : Value) (w : World) (R : VW) : Prop :=
  allocT 42 #[(.slice none 0 0)] w fun t2 w1 =>
  allocT 57 #[(.slice none 0 0), (.int .i64 0), (.int .i64 0), (.slice none 0 0), (.int .i64 0)] w1 fun t3 w2 =>
  clT PR 140 [t0] w2 fun t8 w3 =>
  allocT 42 #[(.slice none 0 0)] w3 fun t4 w4 =>
  stsT 1 t4 t8 w4 fun w5 =>
  ldsT 1 t4 w5 fun t10 =>
  clT PR 170 [t10] w5 fun t11 w6 =>
  extT t11 0 fun t12 =>
  extT t11 1 fun t13 =>
  allocT 57 #[(.slice none 0 0), (.int .i64 0), (.int .i64 0), (.slice none 0 0), (.int .i64 0)] w6 fun t5 w7 =>
  stsT 5 t5 t12 w7 fun w8 =>
  ldsT 1 t4 (w8.drew) fun t15 =>
  ldsT 5 t5 (w8.drew) fun t16 =>
  clT PR 139 [t0, (.int .i64 90)] (w8.drew) fun t18 w9 =>
  (ldsT 5 t5 w9 fun u => u = t16) ∧
  (ldsT 1 t4 w9 fun u => u = t15) ∧
  clT PR 57 [t15, t16, t18] w9 fun t19 w10 =>
  extT t19 0 fun t20 =>
  extT t19 1 fun t21 =>
  stsT 5 t5 t20 w10 fun w11 =>
  clT PR 139 [t0, (.int .i64 14)] w11 fun t23 w12 =>
  binT .gtr t23 (.int .i64 0) fun t24 =>
  condT t24
  (ldsT 1 t4 (w12.drew) fun t25 =>
  ldsT 5 t5 (w12.drew) fun t26 =>
  stsT 1 t2 t25 (w12.drew) fun w13 =>
  (ldsT 5 t5 w13 fun u => u = t26) ∧
  stsT 5 t3 t26 w13 fun w14 =>
  ldsT 1 t2 w14 fun r15 =>
  ldsT 5 t3 w14 fun r16 =>
  R (.tuple #[r15, r16]) w14)
  (clT PR 139 [t0, (.int .i64 8)] w12 fun t28 w17 =>
  binT .eql t28 (.int .i64 0) fun t34 =>
  condT t34
  (fadT 0 t5 fun t36 =>
  ldT t36 w17 fun t37 =>
  lenT t37 fun t38 =>
  binT .add t38 (.int .i64 2) fun t39 =>
  clT PR 139 [t0, t39] w17 fun t40 w18 =>
  binT .sub t40 (.int .i64 1) fun t41 =>
  fadT 1 t5 fun t42 =>
  stT t42 t41 w18 fun w19 =>
  ldsT 1 t4 (w19.drew) fun t101 =>
  ldsT 5 t5 (w19.drew) fun t102 =>
  stsT 1 t2 t101 (w19.drew) fun w20 =>
  (ldsT 5 t5 w20 fun u => u = t102) ∧
  stsT 5 t3 t102 w20 fun w21 =>
  ldsT 1 t2 w21 fun r22 =>
  ldsT 5 t3 w21 fun r23 =>
  R (.tuple #[r22, r23]) w21)
  (binT .eql t28 (.int .i64 1) fun t44 =>
  condT t44
  (bslT 3 2 1 #[(.int .i64 0)] [(0, 1, (.int .i64 0)), (1, 1, (.int .i64 31))] w17 fun t45 w24 =>
  clT PR 139 [t0, (.int .i64 2)] w24 fun t47 w25 =>
  ixaT 1 t45 t47 fun t48 =>
  ldT t48 w25 fun t49 =>
  fadT 2 t5 fun t50 =>
  stT t50 t49 w25 fun w26 =>
  ldsT 1 t4 (w26.drew) fun t101 =>
  ldsT 5 t5 (w26.drew) fun t102 =>
  stsT 1 t2 t101 (w26.drew) fun w27 =>
  (ldsT 5 t5 w27 fun u => u = t102) ∧
  stsT 5 t3 t102 w27 fun w28 =>
  ldsT 1 t2 w28 fun r29 =>
  ldsT 5 t3 w28 fun r30 =>
  R (.tuple #[r29, r30]) w28)
  (binT .eql t28 (.int .i64 2) fun t52 =>
  condT t52
  (clT PR 139 [t0, (.int .i64 6)] w17 fun t54 w31 =>
  binT .sub t54 (.int .i64 1) fun t55 =>
  fadT 4 t5 fun t56 =>
  stT t56 t55 w31 fun w32 =>
  ldsT 1 t4 (w32.drew) fun t101 =>
  ldsT 5 t5 (w32.drew) fun t102 =>
  stsT 1 t2 t101 (w32.drew) fun w33 =>
  (ldsT 5 t5 w33 fun u => u = t102) ∧
  stsT 5 t3 t102 w33 fun w34 =>
  ldsT 1 t2 w34 fun r35 =>
  ldsT 5 t3 w34 fun r36 =>
  R (.tuple #[r35, r36]) w34)
  (binT .eql t28 (.int .i64 3) fun t58 =>
  condT t58
  (fadT 0 t5 fun t59 =>
  ldT t59 (w17.drew) fun t60 =>
  fadT 0 t5 fun t61 =>
  ldT t61 (w17.drew) fun t62 =>
  ixaT 6 t62 (.int .i64 0) fun t63 =>
  fadT 5 t63 fun t64 =>
  ldT t64 (w17.drew) fun t65 =>
  notT t65 fun t66 =>
  ixaT 6 t60 (.int .i64 0) fun t67 =>
  fadT 5 t67 fun t68 =>
  stT t68 t66 (w17.drew) fun w37 =>
  ldsT 1 t4 (w37.drew) fun t101 =>
  ldsT 5 t5 (w37.drew) fun t102 =>
  stsT 1 t2 t101 (w37.drew) fun w38 =>
  (ldsT 5 t5 w38 fun u => u = t102) ∧
  stsT 5 t3 t102 w38 fun w39 =>
  ldsT 1 t2 w39 fun r40 =>
  ldsT 5 t3 w39 fun r41 =>
  R (.tuple #[r40, r41]) w39)
  (binT .eql t28 (.int .i64 4) fun t70 =>
  condT t70
  (fadT 0 t5 fun t71 =>
  ldT t71 (w17.drew) fun t72 =>
  fadT 0 t5 fun t73 =>
  ldT t73 (w17.drew) fun t74 =>
  ixaT 6 t74 (.int .i64 0) fun t75 =>
  fadT 2 t75 fun t76 =>
  ldT t76 (w17.drew) fun t77 =>
  bldT #[(.int .i64 0), (.int .i64 0)] [] fun t78 =>
  bslT 127 1 2 #[(.int .i64 0), (.int .i64 0)] [(0, 2, t78)] (w17.drew) fun t79 w42 =>
  (ldT t76 w42 fun u => u = t77) ∧
  (ldT t73 w42 fun u => u = t74) ∧
  (ldT t71 w42 fun u => u = t72) ∧
  opT PR (Builtin.append_ #[35, 35] 35 #[t77, t79]) w42 fun t80 w43 =>
  (ldT t71 w43 fun u => u = t72) ∧
  ixaT 6 t72 (.int .i64 0) fun t81 =>
  fadT 2 t81 fun t82 =>
  stT t82 t80 w43 fun w44 =>
  ldsT 1 t4 (w44.drew) fun t101 =>
  ldsT 5 t5 (w44.drew) fun t102 =>
  stsT 1 t2 t101 (w44.drew) fun w45 =>
  (ldsT 5 t5 w45 fun u => u = t102) ∧
  stsT 5 t3 t102 w45 fun w46 =>
  ldsT 1 t2 w46 fun r47 =>
  ldsT 5 t3 w46 fun r48 =>
  R (.tuple #[r47, r48]) w46)
  (binT .eql t28 (.int .i64 5) fun t84 =>
  condT t84
  (fadT 0 t5 fun t85 =>
  ldT t85 w17 fun t86 =>
  fadT 0 t5 fun t87 =>
  ldT t87 w17 fun t88 =>
  lenT t88 fun t89 =>
  binT .sub t89 (.int .i64 1) fun t90 =>
  ixaT 6 t86 (.int .i64 0) fun t91 =>
  fadT 4 t91 fun t92 =>
  stT t92 t90 w17 fun w49 =>
  ldsT 1 t4 (w49.drew) fun t101 =>
  ldsT 5 t5 (w49.drew) fun t102 =>
  stsT 1 t2 t101 (w49.drew) fun w50 =>
  (ldsT 5 t5 w50 fun u => u = t102) ∧
  stsT 5 t3 t102 w50 fun w51 =>
  ldsT 1 t2 w51 fun r52 =>
  ldsT 5 t3 w51 fun r53 =>
  R (.tuple #[r52, r53]) w51)
  (binT .eql t28 (.int .i64 6) fun t94 =>
  condT t94
  (fadT 3 t5 fun t95 =>
  ldT t95 w17 fun t96 =>
  bldT #[(.int .i64 0), (.int .i64 0)] [(0, 1, (.int .i64 2)), (1, 1, (.int .i64 9))] fun t97 =>
  bslT 127 1 2 #[(.int .i64 0), (.int .i64 0)] [(0, 2, t97)] w17 fun t98 w54 =>
  opT PR (Builtin.append_ #[35, 35] 35 #[t96, t98]) w54 fun t99 w55 =>
  fadT 3 t5 fun t100 =>
  stT t100 t99 w55 fun w56 =>
  ldsT 1 t4 (w56.drew) fun t101 =>
  ldsT 5 t5 (w56.drew) fun t102 =>
  stsT 1 t2 t101 (w56.drew) fun w57 =>
  (ldsT 5 t5 w57 fun u => u = t102) ∧
  stsT 5 t3 t102 w57 fun w58 =>
  ldsT 1 t2 w58 fun r59 =>
  ldsT 5 t3 w58 fun r60 =>
  R (.tuple #[r59, r60]) w58)
  (fadT 0 t5 fun t29 =>
  ldT t29 w17 fun t30 =>
  opT PR (Instr.sliceAt 55 t30 (some (.int .i64 1)) none none) w17 fun t31 w61 =>
  fadT 0 t5 fun t32 =>
  stT t32 t31 w61 fun w62 =>
  ldsT 1 t4 (w62.drew) fun t101 =>
  ldsT 5 t5 (w62.drew) fun t102 =>
  stsT 1 t2 t101 (w62.drew) fun w63 =>
  (ldsT 5 t5 w63 fun u => u = t102) ∧
  stsT 5 t3 t102 w63 fun w64 =>
  ldsT 1 t2 w64 fun r65 =>
  ldsT 5 t3 w64 fun r66 =>
  R (.tuple #[r65, r66]) w64))))))))
def Fspec_l71Heap.H : Hints := {draw := fun i => match i with | 3 => { T := [0, 0, 0, 4, 15, 31, 63, 63, 127] } | 5 => { T := [0, 0, 1, 7] } | 15 => { T := [0, 1, 0, 4, 12, 28, 60, 124, 255, 511, 1023] } | 17 => { T := [0, 1, 0, 4, 12, 28, 60, 0, 128, 508, 1023, 2047, 4095] } | 22 => { T := [0, 0, 1, 7] } | _ => {}}
theorem Fspec_l71Heap.eq (t0 : Value) : trF PR CX Fspec_l71Heap.H Tryz.f104 [t0] = Fspec_l71Heap t0 := by kernel_rfl
theorem Fspec_l71Heap.cl {t0 : Value} {w : World} {R : VW} (h : Fspec_l71Heap t0 w R) : clT PR 104 [t0] w R := cl_of_tr (H := Fspec_l71Heap.H) ctxOk Tryz.func104 rfl (by rw [Fspec_l71Heap.eq]; exact h)
def Fspec_l71Prog.l1 (x0 x2 x3 x4 : Value) (w : World) (Kn Kb Kr : LW) : Prop := ∀ _ : Env,
  binT .gtr x4 (.int .i64 0) fun t12 =>
  condT t12
  (clT PR 139 [x0, (.int .i64 3)] w fun t17 w4 =>
  bslT 3 1 1 #[(.int .i64 0)] [(0, 1, t17)] w4 fun t18 w5 =>
  opT PR (Builtin.append_ #[26, 26] 26 #[x3, t18]) w5 fun t19 w6 =>
  binT .sub x4 (.int .i64 1) fun t14 =>
  Kn [x0, x2, t19, t14] w6)
  (Kb [x0, x2, x3, x4] w)
def Fspec_l71Prog.l3 (x0 x2 x3 x5 x6 : Value) (w : World) (Kn Kb Kr : LW) : Prop := ∀ _ : Env,
  lenT x3 fun t23 =>
  binT .lss x6 t23 fun t24 =>
  condT t24
  (fadT 0 x5 fun t27 =>
  ldT t27 (w.drew) fun t28 =>
  clT PR 202 [x0, x3, x6] (w.drew) fun t32 w9 =>
  (ldT t27 w9 fun u => u = t28) ∧
  bslT 199 1 3 #[(.int .i64 0), (.int .i64 0), (.slice none 0 0)] [(0, 3, t32)] w9 fun t33 w10 =>
  (ldT t27 w10 fun u => u = t28) ∧
  opT PR (Builtin.append_ #[40, 40] 40 #[t28, t33]) w10 fun t34 w11 =>
  fadT 0 x5 fun t35 =>
  stT t35 t34 w11 fun w12 =>
  binT .add x6 (.int .i64 1) fun t26 =>
  Kn [x0, x2, x3, x5, t26] w12)
  (Kb [x0, x2, x3, x5, x6] w)
def Fspec_l71Prog.k4 (x0 x2 x3 x5 x6 : Value) (w : World) (R : VW) : Prop := ∀ _ : Env,
  ldsT 1 x5 w fun t36 =>
  stsT 1 x2 t36 w fun w13 =>
  ldsT 1 x2 w13 fun r14 =>
  R r14 w13
def Fspec_l71Prog.r5 (x0 x2 x3 x5 x6 : Value) (w : World) (R : VW) : Prop := ∀ _ : Env,
  ldsT 1 x2 w fun r15 =>
  R r15 w
def Fspec_l71Prog.k2 (x0 x2 x3 x4 : Value) (w : World) (R : VW) : Prop := ∀ _ : Env,
  bldT #[(.slice none 0 0)] [] fun t20 =>
  allocT 42 #[(.slice none 0 0)] w fun t5 w7 =>
  stsT 1 t5 t20 w7 fun w8 =>
  loopT (fun s w Kn Kb Kr => Fspec_l71Prog.l3 (s.headD undef) (s.tail.headD undef) (s.tail.tail.headD undef) (s.tail.tail.tail.headD undef) (s.tail.tail.tail.tail.headD undef) w Kn Kb Kr) [x0, x2, x3, t5, (.int .i64 0)] w8
  (fun s w => Fspec_l71Prog.k4 (s.headD undef) (s.tail.headD undef) (s.tail.tail.headD undef) (s.tail.tail.tail.headD undef) (s.tail.tail.tail.tail.headD undef) w R)
  (fun s w => Fspec_l71Prog.r5 (s.headD undef) (s.tail.headD undef) (s.tail.tail.headD undef) (s.tail.tail.tail.headD undef) (s.tail.tail.tail.tail.headD undef) w R)
def Fspec_l71Prog.r6 (x0 x2 x3 x4 : Value) (w : World) (R : VW) : Prop := ∀ _ : Env,
  ldsT 1 x2 w fun r16 =>
  R r16 w
def Fspec_l71Prog (t0 : Value) (w : World) (R : VW) : Prop :=
  allocT 42 #[(.slice none 0 0)] w fun t2 w1 =>
  bslT 3 1 1 #[(.int .i64 0)] [(0, 1, (.int .i64 0))] w1 fun t7 w2 =>
  clT PR 139 [t0, (.int .i64 3)] w2 fun t9 w3 =>
  binT .add (.int .i64 1) t9 fun t10 =>
  loopT (fun s w Kn Kb Kr => Fspec_l71Prog.l1 (s.headD undef) (s.tail.headD undef) (s.tail.tail.headD undef) (s.tail.tail.tail.headD undef) w Kn Kb Kr) [t0, t2, t7, t10] w3
  (fun s w => Fspec_l71Prog.k2 (s.headD undef) (s.tail.headD undef) (s.tail.tail.headD undef) (s.tail.tail.tail.headD undef) w R)
  (fun s w => Fspec_l71Prog.r6 (s.headD undef) (s.tail.headD undef) (s.tail.tail.headD undef) (s.tail.tail.tail.headD undef) w R)
def Fspec_l71Prog.H : Hints := {draw := fun i => match i with | 10 => { T := [0, 1, 0, 0, 0, 28, 60, 127, 255, 511] } | _ => {}, loop := fun i => match i with | 3 => some (0, [0, 2, 3, 4]) | 8 => some (2, [0, 2, 3, 5, 6]) | _ => none}
theorem Fspec_l71Prog.eq (t0 : Value) : trF PR CX Fspec_l71Prog.H Tryz.f140 [t0] = Fspec_l71Prog t0 := by kernel_rfl
theorem Fspec_l71Prog.cl {t0 : Value} {w : World} {R : VW} (h : Fspec_l71Prog t0 w R) : clT PR 140 [t0] w R := cl_of_tr (H := Fspec_l71Prog.H) ctxOk Tryz.func140 rfl (by rw [Fspec_l71Prog.eq]; exact h)
def Fspec_l71Method.j1 (x0 x1 x6 x7 x8 x9 x10 : Value) (w : World) (Kn Kb Kr : LW) : Prop := ∀ _ : Env,
  fadT 2 x7 fun t65 =>
  ldT t65 w fun t66 =>
  lenT t66 fun t67 =>
  lenT x10 fun t69 =>
  binT .add t67 t69 fun t70 =>
  binT .leq t70 (.int .i64 12) fun t71 =>
  condT t71
  (fadT 2 x7 fun t72 =>
  ldT t72 w fun t73 =>
  opT PR (Builtin.append_ #[197, 197] 197 #[t73, x10]) w fun t75 w24 =>
  fadT 2 x7 fun t76 =>
  stT t76 t75 w24 fun w25 =>
  binT .add x9 (.int .i64 1) fun t28 =>
  Kn [x0, x1, x6, x7, x8, t28] w25)
  (binT .add x9 (.int .i64 1) fun t28 =>
  Kn [x0, x1, x6, x7, x8, t28] w)
def Fspec_l71Method.l1 (x0 x1 x6 x7 x8 x9 : Value) (w : World) (Kn Kb Kr : LW) : Prop := ∀ _ : Env,
  binT .lss x9 (.int .i64 4) fun t26 =>
  condT t26
  (fadT 1 x7 fun t31 =>
  ldT t31 w fun t32 =>
  clT PR 242 [x0, x1, t32] w fun t33 w18 =>
  binT .lss x8 (.int .i64 0) fun t35 =>
  condT t35
  (clT PR 139 [x0, (.int .i64 6)] w18 fun t38 w19 =>
  binT .eql t38 (.int .i64 0) fun t39 =>
  condT t39
  (fadT 2 x7 fun t42 =>
  ldT t42 w19 fun t43 =>
  lenT t43 fun t44 =>
  lenT t33 fun t46 =>
  binT .add t44 t46 fun t47 =>
  binT .leq t47 (.int .i64 10) fun t48 =>
  condT t48
  (fadT 2 x7 fun t50 =>
  ldT t50 w19 fun t51 =>
  lenT t51 fun t52 =>
  binT .add t52 (.int .i64 1) fun t53 =>
  fadT 2 x7 fun t54 =>
  ldT t54 (w19.drew) fun t55 =>
  fadT 1 x7 fun t57 =>
  ldT t57 (w19.drew) fun t58 =>
  bldT #[(.int .i64 0), (.int .i64 0)] [(0, 1, (.int .i64 8))] fun t61 =>
  clT PR 139 [x0, t58] (w19.drew) fun t59 w20 =>
  (ldT t54 w20 fun u => u = t55) ∧
  bldT #[(.int .i64 0), (.int .i64 0)] [(0, 1, (.int .i64 2)), (1, 1, t59)] fun t60 =>
  bslT 221 2 2 #[(.int .i64 0), (.int .i64 0)] [(0, 2, t60), (2, 2, t61)] w20 fun t62 w21 =>
  (ldT t54 w21 fun u => u = t55) ∧
  opT PR (Builtin.append_ #[197, 197] 197 #[t55, t62]) w21 fun t63 w22 =>
  fadT 2 x7 fun t64 =>
  stT t64 t63 w22 fun w23 =>
  Fspec_l71Method.j1 x0 x1 x6 x7 t53 x9 t33 w23 Kn Kb Kr)
  (Fspec_l71Method.j1 x0 x1 x6 x7 x8 x9 t33 w19 Kn Kb Kr))
  (Fspec_l71Method.j1 x0 x1 x6 x7 x8 x9 t33 w19 Kn Kb Kr))
  (Fspec_l71Method.j1 x0 x1 x6 x7 x8 x9 t33 w18 Kn Kb Kr))
  (Kb [x0, x1, x6, x7, x8, x9] w)
def Fspec_l71Method.j3 (x6 x7 : Value) (w : World) (R : VW) : Prop := ∀ _ : Env,
  fadT 2 x7 fun t106 =>
  ldT t106 w fun t107 =>
  bldT #[(.int .i64 0), (.int .i64 0)] [(0, 1, (.int .i64 10))] fun t108 =>
  bslT 221 1 2 #[(.int .i64 0), (.int .i64 0)] [(0, 2, t108)] w fun t109 w31 =>
  opT PR (Builtin.append_ #[197, 197] 197 #[t107, t109]) w31 fun t110 w32 =>
  fadT 2 x7 fun t111 =>
  stT t111 t110 w32 fun w33 =>
  ldsT 3 x7 w33 fun t112 =>
  stsT 3 x6 t112 w33 fun w34 =>
  ldsT 3 x6 w34 fun r35 =>
  R r35 w34
def Fspec_l71Method.j2 (x0 x6 x7 : Value) (w : World) (R : VW) : Prop := ∀ _ : Env,
  clT PR 139 [x0, (.int .i64 3)] w fun t88 w27 =>
  binT .eql t88 (.int .i64 0) fun t89 =>
  condT t89
  (fadT 2 x7 fun t90 =>
  ldT t90 w27 fun t91 =>
  bldT #[(.int .i64 0), (.int .i64 0)] [(0, 1, (.int .i64 11))] fun t92 =>
  bslT 221 1 2 #[(.int .i64 0), (.int .i64 0)] [(0, 2, t92)] w27 fun t93 w28 =>
  opT PR (Builtin.append_ #[197, 197] 197 #[t91, t93]) w28 fun t94 w29 =>
  fadT 2 x7 fun t95 =>
  stT t95 t94 w29 fun w30 =>
  Fspec_l71Method.j3 x6 x7 w30 R)
  (fadT 2 x7 fun t96 =>
  ldT t96 (w27.drew) fun t97 =>
  fadT 1 x7 fun t99 =>
  ldT t99 (w27.drew) fun t100 =>
  clT PR 139 [x0, t100] (w27.drew) fun t101 w36 =>
  (ldT t96 w36 fun u => u = t97) ∧
  bldT #[(.int .i64 0), (.int .i64 0)] [(0, 1, (.int .i64 2)), (1, 1, t101)] fun t102 =>
  bslT 221 1 2 #[(.int .i64 0), (.int .i64 0)] [(0, 2, t102)] w36 fun t103 w37 =>
  (ldT t96 w37 fun u => u = t97) ∧
  opT PR (Builtin.append_ #[197, 197] 197 #[t97, t103]) w37 fun t104 w38 =>
  fadT 2 x7 fun t105 =>
  stT t105 t104 w38 fun w39 =>
  Fspec_l71Method.j3 x6 x7 w39 R)
def Fspec_l71Method.k2 (x0 x1 x6 x7 x8 x9 : Value) (w : World) (R : VW) : Prop := ∀ _ : Env,
  binT .geq x8 (.int .i64 0) fun t78 =>
  condT t78
  (fadT 2 x7 fun t79 =>
  ldT t79 w fun t80 =>
  fadT 2 x7 fun t82 =>
  ldT t82 w fun t83 =>
  lenT t83 fun t84 =>
  ixaT 2 t80 x8 fun t85 =>
  fadT 1 t85 fun t86 =>
  stT t86 t84 w fun w26 =>
  Fspec_l71Method.j2 x0 x6 x7 w26 R)
  (Fspec_l71Method.j2 x0 x6 x7 w R)
def Fspec_l71Method.r3 (x0 x1 x6 x7 x8 x9 : Value) (w : World) (R : VW) : Prop := ∀ _ : Env,
  ldsT 3 x6 w fun r40 =>
  R r40 w
def Fspec_l71Method.j4 (x0 x1 x6 x7 x8 x9 x10 : Value) (w : World) (Kn Kb Kr : LW) : Prop := ∀ _ : Env,
  fadT 2 x7 fun t65 =>
  ldT t65 w fun t66 =>
  lenT t66 fun t67 =>
  lenT x10 fun t69 =>
  binT .add t67 t69 fun t70 =>
  binT .leq t70 (.int .i64 12) fun t71 =>
  condT t71
  (fadT 2 x7 fun t72 =>
  ldT t72 w fun t73 =>
  opT PR (Builtin.append_ #[197, 197] 197 #[t73, x10]) w fun t75 w58 =>
  fadT 2 x7 fun t76 =>
  stT t76 t75 w58 fun w59 =>
  binT .add x9 (.int .i64 1) fun t28 =>
  Kn [x0, x1, x6, x7, x8, t28] w59)
  (binT .add x9 (.int .i64 1) fun t28 =>
  Kn [x0, x1, x6, x7, x8, t28] w)
def Fspec_l71Method.l4 (x0 x1 x6 x7 x8 x9 : Value) (w : World) (Kn Kb Kr : LW) : Prop := ∀ _ : Env,
  binT .lss x9 (.int .i64 4) fun t26 =>
  condT t26
  (fadT 1 x7 fun t31 =>
  ldT t31 w fun t32 =>
  clT PR 242 [x0, x1, t32] w fun t33 w52 =>
  binT .lss x8 (.int .i64 0) fun t35 =>
  condT t35
  (clT PR 139 [x0, (.int .i64 6)] w52 fun t38 w53 =>
  binT .eql t38 (.int .i64 0) fun t39 =>
  condT t39
  (fadT 2 x7 fun t42 =>
  ldT t42 w53 fun t43 =>
  lenT t43 fun t44 =>
  lenT t33 fun t46 =>
  binT .add t44 t46 fun t47 =>
  binT .leq t47 (.int .i64 10) fun t48 =>
  condT t48
  (fadT 2 x7 fun t50 =>
  ldT t50 w53 fun t51 =>
  lenT t51 fun t52 =>
  binT .add t52 (.int .i64 1) fun t53 =>
  fadT 2 x7 fun t54 =>
  ldT t54 (w53.drew) fun t55 =>
  fadT 1 x7 fun t57 =>
  ldT t57 (w53.drew) fun t58 =>
  bldT #[(.int .i64 0), (.int .i64 0)] [(0, 1, (.int .i64 8))] fun t61 =>
  clT PR 139 [x0, t58] (w53.drew) fun t59 w54 =>
  (ldT t54 w54 fun u => u = t55) ∧
  bldT #[(.int .i64 0), (.int .i64 0)] [(0, 1, (.int .i64 2)), (1, 1, t59)] fun t60 =>
  bslT 221 2 2 #[(.int .i64 0), (.int .i64 0)] [(0, 2, t60), (2, 2, t61)] w54 fun t62 w55 =>
  (ldT t54 w55 fun u => u = t55) ∧
  opT PR (Builtin.append_ #[197, 197] 197 #[t55, t62]) w55 fun t63 w56 =>
  fadT 2 x7 fun t64 =>
  stT t64 t63 w56 fun w57 =>
  Fspec_l71Method.j4 x0 x1 x6 x7 t53 x9 t33 w57 Kn Kb Kr)
  (Fspec_l71Method.j4 x0 x1 x6 x7 x8 x9 t33 w53 Kn Kb Kr))
  (Fspec_l71Method.j4 x0 x1 x6 x7 x8 x9 t33 w53 Kn Kb Kr))
  (Fspec_l71Method.j4 x0 x1 x6 x7 x8 x9 t33 w52 Kn Kb Kr))
  (Kb [x0, x1, x6, x7, x8, x9] w)
def Fspec_l71Method.j6 (x6 x7 : Value) (w : World) (R : VW) : Prop := ∀ _ : Env,
  fadT 2 x7 fun t106 =>
  ldT t106 w fun t107 =>
  bldT #[(.int .i64 0), (.int .i64 0)] [(0, 1, (.int .i64 10))] fun t108 =>
  bslT 221 1 2 #[(.int .i64 0), (.int .i64 0)] [(0, 2, t108)] w fun t109 w65 =>
  opT PR (Builtin.append_ #[197, 197] 197 #[t107, t109]) w65 fun t110 w66 =>
  fadT 2 x7 fun t111 =>
  stT t111 t110 w66 fun w67 =>
  ldsT 3 x7 w67 fun t112 =>
  stsT 3 x6 t112 w67 fun w68 =>
  ldsT 3 x6 w68 fun r69 =>
  R r69 w68
def Fspec_l71Method.j5 (x0 x6 x7 : Value) (w : World) (R : VW) : Prop := ∀ _ : Env,
  clT PR 139 [x0, (.int .i64 3)] w fun t88 w61 =>
  binT .eql t88 (.int .i64 0) fun t89 =>
  condT t89
  (fadT 2 x7 fun t90 =>
  ldT t90 w61 fun t91 =>
  bldT #[(.int .i64 0), (.int .i64 0)] [(0, 1, (.int .i64 11))] fun t92 =>
  bslT 221 1 2 #[(.int .i64 0), (.int .i64 0)] [(0, 2, t92)] w61 fun t93 w62 =>
  opT PR (Builtin.append_ #[197, 197] 197 #[t91, t93]) w62 fun t94 w63 =>
  fadT 2 x7 fun t95 =>
  stT t95 t94 w63 fun w64 =>
  Fspec_l71Method.j6 x6 x7 w64 R)
  (fadT 2 x7 fun t96 =>
  ldT t96 (w61.drew) fun t97 =>
  fadT 1 x7 fun t99 =>
  ldT t99 (w61.drew) fun t100 =>
  clT PR 139 [x0, t100] (w61.drew) fun t101 w70 =>
  (ldT t96 w70 fun u => u = t97) ∧
  bldT #[(.int .i64 0), (.int .i64 0)] [(0, 1, (.int .i64 2)), (1, 1, t101)] fun t102 =>
  bslT 221 1 2 #[(.int .i64 0), (.int .i64 0)] [(0, 2, t102)] w70 fun t103 w71 =>
  (ldT t96 w71 fun u => u = t97) ∧
  opT PR (Builtin.append_ #[197, 197] 197 #[t97, t103]) w71 fun t104 w72 =>
  fadT 2 x7 fun t105 =>
  stT t105 t104 w72 fun w73 =>
  Fspec_l71Method.j6 x6 x7 w73 R)
def Fspec_l71Method.k5 (x0 x1 x6 x7 x8 x9 : Value) (w : World) (R : VW) : Prop := ∀ _ : Env,
  binT .geq x8 (.int .i64 0) fun t78 =>
  condT t78
  (fadT 2 x7 fun t79 =>
  ldT t79 w fun t80 =>
  fadT 2 x7 fun t82 =>
  ldT t82 w fun t83 =>
  lenT t83 fun t84 =>
  ixaT 2 t80 x8 fun t85 =>
  fadT 1 t85 fun t86 =>
  stT t86 t84 w fun w60 =>
  Fspec_l71Method.j5 x0 x6 x7 w60 R)
  (Fspec_l71Method.j5 x0 x6 x7 w R)
def Fspec_l71Method.j7 (x0 x1 x6 x7 x8 x9 x10 : Value) (w : World) (Kn Kb Kr : LW) : Prop := ∀ _ : Env,
  fadT 2 x7 fun t65 =>
  ldT t65 w fun t66 =>
  lenT t66 fun t67 =>
  lenT x10 fun t69 =>
  binT .add t67 t69 fun t70 =>
  binT .leq t70 (.int .i64 12) fun t71 =>
  condT t71
  (fadT 2 x7 fun t72 =>
  ldT t72 w fun t73 =>
  opT PR (Builtin.append_ #[197, 197] 197 #[t73, x10]) w fun t75 w94 =>
  fadT 2 x7 fun t76 =>
  stT t76 t75 w94 fun w95 =>
  binT .add x9 (.int .i64 1) fun t28 =>
  Kn [x0, x1, x6, x7, x8, t28] w95)
  (binT .add x9 (.int .i64 1) fun t28 =>
  Kn [x0, x1, x6, x7, x8, t28] w)
def Fspec_l71Method.l6 (x0 x1 x6 x7 x8 x9 : Value) (w : World) (Kn Kb Kr : LW) : Prop := ∀ _ : Env,
  binT .lss x9 (.int .i64 4) fun t26 =>
  condT t26
  (fadT 1 x7 fun t31 =>
  ldT t31 w fun t32 =>
  clT PR 242 [x0, x1, t32] w fun t33 w88 =>
  binT .lss x8 (.int .i64 0) fun t35 =>
  condT t35
  (clT PR 139 [x0, (.int .i64 6)] w88 fun t38 w89 =>
  binT .eql t38 (.int .i64 0) fun t39 =>
  condT t39
  (fadT 2 x7 fun t42 =>
  ldT t42 w89 fun t43 =>
  lenT t43 fun t44 =>
  lenT t33 fun t46 =>
  binT .add t44 t46 fun t47 =>
  binT .leq t47 (.int .i64 10) fun t48 =>
  condT t48
  (fadT 2 x7 fun t50 =>
  ldT t50 w89 fun t51 =>
  lenT t51 fun t52 =>
  binT .add t52 (.int .i64 1) fun t53 =>
  fadT 2 x7 fun t54 =>
  ldT t54 (w89.drew) fun t55 =>
  fadT 1 x7 fun t57 =>
  ldT t57 (w89.drew) fun t58 =>
  bldT #[(.int .i64 0), (.int .i64 0)] [(0, 1, (.int .i64 8))] fun t61 =>
  clT PR 139 [x0, t58] (w89.drew) fun t59 w90 =>
  (ldT t54 w90 fun u => u = t55) ∧
  bldT #[(.int .i64 0), (.int .i64 0)] [(0, 1, (.int .i64 2)), (1, 1, t59)] fun t60 =>
  bslT 221 2 2 #[(.int .i64 0), (.int .i64 0)] [(0, 2, t60), (2, 2, t61)] w90 fun t62 w91 =>
  (ldT t54 w91 fun u => u = t55) ∧
  opT PR (Builtin.append_ #[197, 197] 197 #[t55, t62]) w91 fun t63 w92 =>
  fadT 2 x7 fun t64 =>
  stT t64 t63 w92 fun w93 =>
  Fspec_l71Method.j7 x0 x1 x6 x7 t53 x9 t33 w93 Kn Kb Kr)
  (Fspec_l71Method.j7 x0 x1 x6 x7 x8 x9 t33 w89 Kn Kb Kr))
  (Fspec_l71Method.j7 x0 x1 x6 x7 x8 x9 t33 w89 Kn Kb Kr))
  (Fspec_l71Method.j7 x0 x1 x6 x7 x8 x9 t33 w88 Kn Kb Kr))
  (Kb [x0, x1, x6, x7, x8, x9] w)
def Fspec_l71Method.j9 (x6 x7 : Value) (w : World) (R : VW) : Prop := ∀ _ : Env,
  fadT 2 x7 fun t106 =>
  ldT t106 w fun t107 =>
  bldT #[(.int .i64 0), (.int .i64 0)] [(0, 1, (.int .i64 10))] fun t108 =>
  bslT 221 1 2 #[(.int .i64 0), (.int .i64 0)] [(0, 2, t108)] w fun t109 w101 =>
  opT PR (Builtin.append_ #[197, 197] 197 #[t107, t109]) w101 fun t110 w102 =>
  fadT 2 x7 fun t111 =>
  stT t111 t110 w102 fun w103 =>
  ldsT 3 x7 w103 fun t112 =>
  stsT 3 x6 t112 w103 fun w104 =>
  ldsT 3 x6 w104 fun r105 =>
  R r105 w104
def Fspec_l71Method.j8 (x0 x6 x7 : Value) (w : World) (R : VW) : Prop := ∀ _ : Env,
  clT PR 139 [x0, (.int .i64 3)] w fun t88 w97 =>
  binT .eql t88 (.int .i64 0) fun t89 =>
  condT t89
  (fadT 2 x7 fun t90 =>
  ldT t90 w97 fun t91 =>
  bldT #[(.int .i64 0), (.int .i64 0)] [(0, 1, (.int .i64 11))] fun t92 =>
  bslT 221 1 2 #[(.int .i64 0), (.int .i64 0)] [(0, 2, t92)] w97 fun t93 w98 =>
  opT PR (Builtin.append_ #[197, 197] 197 #[t91, t93]) w98 fun t94 w99 =>
  fadT 2 x7 fun t95 =>
  stT t95 t94 w99 fun w100 =>
  Fspec_l71Method.j9 x6 x7 w100 R)
  (fadT 2 x7 fun t96 =>
  ldT t96 (w97.drew) fun t97 =>
  fadT 1 x7 fun t99 =>
  ldT t99 (w97.drew) fun t100 =>
  clT PR 139 [x0, t100] (w97.drew) fun t101 w106 =>
  (ldT t96 w106 fun u => u = t97) ∧
  bldT #[(.int .i64 0), (.int .i64 0)] [(0, 1, (.int .i64 2)), (1, 1, t101)] fun t102 =>
  bslT 221 1 2 #[(.int .i64 0), (.int .i64 0)] [(0, 2, t102)] w106 fun t103 w107 =>
  (ldT t96 w107 fun u => u = t97) ∧
  opT PR (Builtin.append_ #[197, 197] 197 #[t97, t103]) w107 fun t104 w108 =>
  fadT 2 x7 fun t105 =>
  stT t105 t104 w108 fun w109 =>
  Fspec_l71Method.j9 x6 x7 w109 R)
def Fspec_l71Method.k7 (x0 x1 x6 x7 x8 x9 : Value) (w : World) (R : VW) : Prop := ∀ _ : Env,
  binT .geq x8 (.int .i64 0) fun t78 =>
  condT t78
  (fadT 2 x7 fun t79 =>
  ldT t79 w fun t80 =>
  fadT 2 x7 fun t82 =>
  ldT t82 w fun t83 =>
  lenT t83 fun t84 =>
  ixaT 2 t80 x8 fun t85 =>
  fadT 1 t85 fun t86 =>
  stT t86 t84 w fun w96 =>
  Fspec_l71Method.j8 x0 x6 x7 w96 R)
  (Fspec_l71Method.j8 x0 x6 x7 w R)
def Fspec_l71Method (t0 t1 t2 : Value) (w : World) (R : VW) : Prop :=
  allocT 199 #[(.int .i64 0), (.int .i64 0), (.slice none 0 0)] w fun t6 w1 =>
  ixaT 1 t1 t2 fun t13 =>
  ldT t13 (w1.drew) fun t14 =>
  ixaT 1 t1 t2 fun t17 =>
  ldT t17 (w1.drew) fun t18 =>
  arT [(199, #[(.int .i64 0), (.int .i64 0), (.slice none 0 0)])] (w1.drew) [none] fun w2 s3 =>
  (clT PR 139 [t0, (.int .i64 3)] w2 fun t20 w4 =>
  (ldT t17 w4 fun u => u = t18) ∧
  (ldT t13 w4 fun u => u = t14) ∧
  binT .add (.int .i64 1) t20 fun t21 =>
  arT [(199, #[(.int .i64 0), (.int .i64 0), (.slice none 0 0)])] w4 s3 fun w5 s6 =>
  (opT PR (Builtin.max_ #[3, 3] 3 #[t18, t21]) w5 fun t22 w7 =>
  (ldT t13 w7 fun u => u = t14) ∧
  arT [(199, #[(.int .i64 0), (.int .i64 0), (.slice none 0 0)])] w7 s6 fun w8 s9 =>
  bslT 221 0 2 #[] [] w8 fun t23 w10 =>
  (ldT t17 w10 fun u => u = t18) ∧
  (ldT t13 w10 fun u => u = t14) ∧
  bldT #[(.int .i64 0), (.int .i64 0), (.slice none 0 0)] [(0, 1, t14), (1, 1, t22), (2, 1, t23)] fun t24 =>
  arT [(199, #[(.int .i64 0), (.int .i64 0), (.slice none 0 0)])] w10 s9 fun w11 s12 =>
  ndT s12 0 fun b13 =>
  stsT 3 (.pointer (some ⟨b13, 0, none⟩)) t24 w11 fun w14 =>
  arT [(199, #[(.int .i64 0), (.int .i64 0), (.slice none 0 0)])] w14 s12 fun w15 s16 =>
  ndT s16 0 fun b17 =>
  loopT (fun s w Kn Kb Kr => Fspec_l71Method.l1 (s.headD undef) (s.tail.headD undef) (s.tail.tail.headD undef) (s.tail.tail.tail.headD undef) (s.tail.tail.tail.tail.headD undef) (s.tail.tail.tail.tail.tail.headD undef) w Kn Kb Kr) [t0, t1, t6, (.pointer (some ⟨b17, 0, none⟩)), (.int .i64 (-1)), (.int .i64 0)] w15
  (fun s w => Fspec_l71Method.k2 (s.headD undef) (s.tail.headD undef) (s.tail.tail.headD undef) (s.tail.tail.tail.headD undef) (s.tail.tail.tail.tail.headD undef) (s.tail.tail.tail.tail.tail.headD undef) w R)
  (fun s w => Fspec_l71Method.r3 (s.headD undef) (s.tail.headD undef) (s.tail.tail.headD undef) (s.tail.tail.tail.headD undef) (s.tail.tail.tail.tail.headD undef) (s.tail.tail.tail.tail.tail.headD undef) w R)) ∧
  (bslT 221 0 2 #[] [] w5 fun t23 w41 =>
  (ldT t17 w41 fun u => u = t18) ∧
  (ldT t13 w41 fun u => u = t14) ∧
  arT [(199, #[(.int .i64 0), (.int .i64 0), (.slice none 0 0)])] w41 s6 fun w42 s43 =>
  opT PR (Builtin.max_ #[3, 3] 3 #[t18, t21]) w42 fun t22 w44 =>
  (ldT t13 w44 fun u => u = t14) ∧
  bldT #[(.int .i64 0), (.int .i64 0), (.slice none 0 0)] [(0, 1, t14), (1, 1, t22), (2, 1, t23)] fun t24 =>
  arT [(199, #[(.int .i64 0), (.int .i64 0), (.slice none 0 0)])] w44 s43 fun w45 s46 =>
  ndT s46 0 fun b47 =>
  stsT 3 (.pointer (some ⟨b47, 0, none⟩)) t24 w45 fun w48 =>
  arT [(199, #[(.int .i64 0), (.int .i64 0), (.slice none 0 0)])] w48 s46 fun w49 s50 =>
  ndT s50 0 fun b51 =>
  loopT (fun s w Kn Kb Kr => Fspec_l71Method.l4 (s.headD undef) (s.tail.headD undef) (s.tail.tail.headD undef) (s.tail.tail.tail.headD undef) (s.tail.tail.tail.tail.headD undef) (s.tail.tail.tail.tail.tail.headD undef) w Kn Kb Kr) [t0, t1, t6, (.pointer (some ⟨b51, 0, none⟩)), (.int .i64 (-1)), (.int .i64 0)] w49
  (fun s w => Fspec_l71Method.k5 (s.headD undef) (s.tail.headD undef) (s.tail.tail.headD undef) (s.tail.tail.tail.headD undef) (s.tail.tail.tail.tail.headD undef) (s.tail.tail.tail.tail.tail.headD undef) w R)
  (fun s w => Fspec_l71Method.r3 (s.headD undef) (s.tail.headD undef) (s.tail.tail.headD undef) (s.tail.tail.tail.headD undef) (s.tail.tail.tail.tail.headD undef) (s.tail.tail.tail.tail.tail.headD undef) w R))) ∧
  (bslT 221 0 2 #[] [] w2 fun t23 w74 =>
  (ldT t17 w74 fun u => u = t18) ∧
  (ldT t13 w74 fun u => u = t14) ∧
  arT [(199, #[(.int .i64 0), (.int .i64 0), (.slice none 0 0)])] w74 s3 fun w75 s76 =>
  clT PR 139 [t0, (.int .i64 3)] w75 fun t20 w77 =>
  (ldT t17 w77 fun u => u = t18) ∧
  (ldT t13 w77 fun u => u = t14) ∧
  binT .add (.int .i64 1) t20 fun t21 =>
  arT [(199, #[(.int .i64 0), (.int .i64 0), (.slice none 0 0)])] w77 s76 fun w78 s79 =>
  opT PR (Builtin.max_ #[3, 3] 3 #[t18, t21]) w78 fun t22 w80 =>
  (ldT t13 w80 fun u => u = t14) ∧
  bldT #[(.int .i64 0), (.int .i64 0), (.slice none 0 0)] [(0, 1, t14), (1, 1, t22), (2, 1, t23)] fun t24 =>
  arT [(199, #[(.int .i64 0), (.int .i64 0), (.slice none 0 0)])] w80 s79 fun w81 s82 =>
  ndT s82 0 fun b83 =>
  stsT 3 (.pointer (some ⟨b83, 0, none⟩)) t24 w81 fun w84 =>
  arT [(199, #[(.int .i64 0), (.int .i64 0), (.slice none 0 0)])] w84 s82 fun w85 s86 =>
  ndT s86 0 fun b87 =>
  loopT (fun s w Kn Kb Kr => Fspec_l71Method.l6 (s.headD undef) (s.tail.headD undef) (s.tail.tail.headD undef) (s.tail.tail.tail.headD undef) (s.tail.tail.tail.tail.headD undef) (s.tail.tail.tail.tail.tail.headD undef) w Kn Kb Kr) [t0, t1, t6, (.pointer (some ⟨b87, 0, none⟩)), (.int .i64 (-1)), (.int .i64 0)] w85
  (fun s w => Fspec_l71Method.k7 (s.headD undef) (s.tail.headD undef) (s.tail.tail.headD undef) (s.tail.tail.tail.headD undef) (s.tail.tail.tail.tail.headD undef) (s.tail.tail.tail.tail.tail.headD undef) w R)
  (fun s w => Fspec_l71Method.r3 (s.headD undef) (s.tail.headD undef) (s.tail.tail.headD undef) (s.tail.tail.tail.headD undef) (s.tail.tail.tail.tail.headD undef) (s.tail.tail.tail.tail.tail.headD undef) w R))
def Fspec_l71Method.H : Hints := {draw := fun i => match i with | 1 => { T := [0, 0, 3, 7, 0, 0, 48, 112, 0, 256, 768, 2032, 0, 8191, 0, 32767], F := [14] } | 9 => { T := [0, 1, 0, 0, 8, 28, 60, 0, 252, 511, 1023, 2047] } | 16 => { T := [0, 1, 0, 0, 8, 28, 60, 124, 255, 511, 1023] } | _ => {}, loop := fun i => match i with | 4 => some (0, [0, 1, 6, 7, 8, 9]) | _ => none, join := fun i => match i with | 49 => some [0, 1, 6, 7, 8, 9, 10] | 78 => some [0, 6, 7] | 89 => some [6, 7] | _ => none}
theorem Fspec_l71Method.eq (t0 t1 t2 : Value) : trF PR CX Fspec_l71Method.H Tryz.f202 [t0, t1, t2] = Fspec_l71Method t0 t1 t2 := by kernel_rfl
theorem Fspec_l71Method.cl {t0 t1 t2 : Value} {w : World} {R : VW} (h : Fspec_l71Method t0 t1 t2 w R) : clT PR 202 [t0, t1, t2] w R := cl_of_tr (H := Fspec_l71Method.H) ctxOk Tryz.func202 rfl (by rw [Fspec_l71Method.eq]; exact h)
def Fspec_l71Part.j4 (x0 x1 x2 x10 x22 : Value) (w : World) (R : VW) : Prop := ∀ _ : Env,
  clT PR 139 [x0, (.int .i64 50)] w fun t97 w37 =>
  clT PR 139 [x0, (.int .i64 50)] w37 fun t99 w38 =>
  bslT 3 8 1 #[(.int .i64 0)] [(0, 1, (.int .i64 1)), (1, 1, t97), (2, 1, (.int .i64 1)), (3, 1, t99), (4, 1, (.int .i64 5)), (5, 1, (.int .i64 0)), (6, 1, (.int .i64 16)), (7, 1, (.int .i64 0))] w38 fun t100 w39 =>
  clT PR 262 [t100] w39 fun t101 w40 =>
  R t101 w40
def Fspec_l71Part.j3 (x0 x2 x10 x47 : Value) (w : World) (R : VW) : Prop := ∀ _ : Env,
  Fspec_l71Part.j4 x0 undef x2 x10 undef w R
def Fspec_l71Part.j2 (x0 x2 x10 x47 : Value) (w : World) (R : VW) : Prop := ∀ _ : Env,
  condT x47
  (clT PR 265 [x0, x2] w fun t52 w15 =>
  clT PR 263 [x0, x2] w15 fun t55 w16 =>
  bslT 221 1 2 #[(.int .i64 0), (.int .i64 0)] [(0, 2, t55)] w16 fun t56 w17 =>
  opT PR (Builtin.append_ #[197, 197] 197 #[t52, t56]) w17 fun t57 w18 =>
  R t57 w18)
  (binT .eql x10 (.int .i64 6) fun t59 =>
  condT t59
  (clT PR 139 [x0, x2] w fun t62 w19 =>
  bslT 3 4 1 #[(.int .i64 0)] [(0, 1, (.int .i64 11)), (1, 1, (.int .i64 0)), (2, 1, (.int .i64 3)), (3, 1, t62)] w19 fun t63 w20 =>
  clT PR 262 [t63] w20 fun t64 w21 =>
  R t64 w21)
  (binT .eql x10 (.int .i64 7) fun t66 =>
  condT t66
  (clT PR 139 [x0, (.int .i64 2)] w fun t68 w22 =>
  binT .eql t68 (.int .i64 0) fun t69 =>
  condT t69
  (clT PR 139 [x0, (.int .i64 9)] w22 fun t71 w23 =>
  clT PR 139 [x0, (.int .i64 4)] w23 fun t73 w24 =>
  bslT 3 8 1 #[(.int .i64 0)] [(0, 1, (.int .i64 11)), (1, 1, (.int .i64 0)), (2, 1, (.int .i64 12)), (3, 1, (.int .i64 0)), (4, 1, (.int .i64 1)), (5, 1, t71), (6, 1, (.int .i64 14)), (7, 1, t73)] w24 fun t74 w25 =>
  clT PR 262 [t74] w25 fun t75 w26 =>
  R t75 w26)
  (clT PR 139 [x0, x2] w22 fun t78 w27 =>
  clT PR 139 [x0, x2] w27 fun t81 w28 =>
  bslT 3 8 1 #[(.int .i64 0)] [(0, 1, (.int .i64 2)), (1, 1, t78), (2, 1, (.int .i64 2)), (3, 1, t81), (4, 1, (.int .i64 6)), (5, 1, (.int .i64 0)), (6, 1, (.int .i64 16)), (7, 1, (.int .i64 0))] w28 fun t82 w29 =>
  clT PR 262 [t82] w29 fun t83 w30 =>
  R t83 w30))
  (binT .eql x10 (.int .i64 8) fun t85 =>
  condT t85
  (clT PR 139 [x0, x2] w fun t88 w31 =>
  clT PR 139 [x0, (.int .i64 9)] w31 fun t90 w32 =>
  bslT 3 6 1 #[(.int .i64 0)] [(0, 1, (.int .i64 2)), (1, 1, t88), (2, 1, (.int .i64 1)), (3, 1, t90), (4, 1, (.int .i64 15)), (5, 1, (.int .i64 0))] w32 fun t91 w33 =>
  clT PR 262 [t91] w33 fun t92 w34 =>
  bldT #[(.int .i64 0), (.int .i64 0)] [(0, 1, (.int .i64 4))] fun t93 =>
  bslT 221 1 2 #[(.int .i64 0), (.int .i64 0)] [(0, 2, t93)] w34 fun t94 w35 =>
  opT PR (Builtin.append_ #[197, 197] 197 #[t92, t94]) w35 fun t95 w36 =>
  R t95 w36)
  (Fspec_l71Part.j3 x0 x2 x10 x47 w R))))
def Fspec_l71Part.j1 (x0 x1 x2 x10 x22 : Value) (w : World) (R : VW) : Prop := ∀ _ : Env,
  condT x22
  (lenT x1 fun t28 =>
  clT PR 139 [x0, t28] w fun t29 w8 =>
  ixaT 1 x1 t29 fun t33 =>
  ldT t33 w8 fun t34 =>
  clT PR 264 [x0, t34, x2] w8 fun t36 w9 =>
  bldT #[(.int .i64 0), (.int .i64 0)] [(0, 1, (.int .i64 9)), (1, 1, t29)] fun t38 =>
  bslT 221 1 2 #[(.int .i64 0), (.int .i64 0)] [(0, 2, t38)] w9 fun t39 w10 =>
  opT PR (Builtin.append_ #[197, 197] 197 #[t36, t39]) w10 fun t40 w11 =>
  clT PR 263 [x0, x2] w11 fun t44 w12 =>
  bslT 221 1 2 #[(.int .i64 0), (.int .i64 0)] [(0, 2, t44)] w12 fun t45 w13 =>
  opT PR (Builtin.append_ #[197, 197] 197 #[t40, t45]) w13 fun t46 w14 =>
  R t46 w14)
  (binT .eql x10 (.int .i64 4) fun t48 =>
  condT t48
  (Fspec_l71Part.j2 x0 x2 x10 t48 w R)
  (binT .eql x10 (.int .i64 5) fun t49 =>
  Fspec_l71Part.j2 x0 x2 x10 t49 w R))
def Fspec_l71Part.j5 (x0 x1 x2 x10 x22 : Value) (w : World) (R : VW) : Prop := ∀ _ : Env,
  Fspec_l71Part.j1 x0 x1 x2 x10 x22 w R
def Fspec_l71Part (t0 t1 t2 : Value) (w : World) (R : VW) : Prop :=
  clT PR 139 [t0, (.int .i64 10)] w fun t10 w1 =>
  binT .eql t10 (.int .i64 0) fun t12 =>
  condT t12
  (clT PR 139 [t0, (.int .i64 20)] w1 fun t14 w2 =>
  bslT 3 2 1 #[(.int .i64 0)] [(0, 1, (.int .i64 1)), (1, 1, t14)] w2 fun t15 w3 =>
  clT PR 262 [t15] w3 fun t16 w4 =>
  clT PR 263 [t0, t2] w4 fun t19 w5 =>
  bslT 221 1 2 #[(.int .i64 0), (.int .i64 0)] [(0, 2, t19)] w5 fun t20 w6 =>
  opT PR (Builtin.append_ #[197, 197] 197 #[t16, t20]) w6 fun t21 w7 =>
  R t21 w7)
  (binT .eql t10 (.int .i64 1) fun t23 =>
  condT t23
  (Fspec_l71Part.j1 t0 t1 t2 t10 t23 w1 R)
  (binT .eql t10 (.int .i64 2) fun t24 =>
  condT t24
  (Fspec_l71Part.j5 t0 t1 t2 t10 t24 w1 R)
  (binT .eql t10 (.int .i64 3) fun t25 =>
  Fspec_l71Part.j5 t0 t1 t2 t10 t25 w1 R)))
def Fspec_l71Part.H : Hints := {join := fun i => match i with | 22 => some [0, 1, 2, 10, 22] | 47 => some [0, 2, 10, 47] | _ => none}
theorem Fspec_l71Part.eq (t0 t1 t2 : Value) : trF PR CX Fspec_l71Part.H Tryz.f242 [t0, t1, t2] = Fspec_l71Part t0 t1 t2 := by kernel_rfl
theorem Fspec_l71Part.cl {t0 t1 t2 : Value} {w : World} {R : VW} (h : Fspec_l71Part t0 t1 t2 w R) : clT PR 242 [t0, t1, t2] w R := cl_of_tr (H := Fspec_l71Part.H) ctxOk Tryz.func242 rfl (by rw [Fspec_l71Part.eq]; exact h)
def Fspec_l71Ops.l1 (x0 x2 x3 x4 : Value) (w : World) (Kn Kb Kr : LW) : Prop := ∀ _ : Env,
  binT .add x4 (.int .i64 1) fun t7 =>
  lenT x0 fun t9 =>
  binT .lss t7 t9 fun t10 =>
  condT t10
  (ixaT 1 x0 x4 fun t16 =>
  ldT t16 (w.drew) fun t17 =>
  binT .add x4 (.int .i64 1) fun t20 =>
  ixaT 1 x0 t20 fun t21 =>
  ldT t21 (w.drew) fun t22 =>
  bldT #[(.int .i64 0), (.int .i64 0)] [(0, 1, t17), (1, 1, t22)] fun t23 =>
  bslT 221 1 2 #[(.int .i64 0), (.int .i64 0)] [(0, 2, t23)] (w.drew) fun t24 w2 =>
  opT PR (Builtin.append_ #[197, 197] 197 #[x3, t24]) w2 fun t25 w3 =>
  binT .add x4 (.int .i64 2) fun t12 =>
  Kn [x0, x2, t25, t12] w3)
  (Kb [x0, x2, x3, x4] w)
def Fspec_l71Ops.k2 (x0 x2 x3 x4 : Value) (w : World) (R : VW) : Prop := ∀ _ : Env,
  R x3 w
def Fspec_l71Ops.r3 (x0 x2 x3 x4 : Value) (w : World) (R : VW) : Prop := ∀ _ : Env,
  R x2 w
def Fspec_l71Ops (t0 : Value) (w : World) (R : VW) : Prop :=
  bslT 221 0 2 #[] [] w fun t5 w1 =>
  loopT (fun s w Kn Kb Kr => Fspec_l71Ops.l1 (s.headD undef) (s.tail.headD undef) (s.tail.tail.headD undef) (s.tail.tail.tail.headD undef) w Kn Kb Kr) [t0, (.slice none 0 0), t5, (.int .i64 0)] w1
  (fun s w => Fspec_l71Ops.k2 (s.headD undef) (s.tail.headD undef) (s.tail.tail.headD undef) (s.tail.tail.tail.headD undef) w R)
  (fun s w => Fspec_l71Ops.r3 (s.headD undef) (s.tail.headD undef) (s.tail.tail.headD undef) (s.tail.tail.tail.headD undef) w R)
def Fspec_l71Ops.H : Hints := {draw := fun i => match i with | 5 => { T := [0, 0, 0, 6, 14, 0, 0, 64, 224, 480, 1022, 2046, 4095, 8191] } | _ => {}, loop := fun i => match i with | 3 => some (0, [0, 2, 3, 4]) | _ => none}
theorem Fspec_l71Ops.eq (t0 : Value) : trF PR CX Fspec_l71Ops.H Tryz.f262 [t0] = Fspec_l71Ops t0 := by kernel_rfl
theorem Fspec_l71Ops.cl {t0 : Value} {w : World} {R : VW} (h : Fspec_l71Ops t0 w R) : clT PR 262 [t0] w R := cl_of_tr (H := Fspec_l71Ops.H) ctxOk Tryz.func262 rfl (by rw [Fspec_l71Ops.eq]; exact h)
def Fspec_l71End.j2 (x0 x1 x4 x10 : Value) (w : World) (R : VW) : Prop := ∀ _ : Env,
  clT PR 139 [x0, x1] w fun t16 w7 =>
  bldT #[(.int .i64 0), (.int .i64 0)] [(0, 1, (.int .i64 3)), (1, 1, t16)] fun t17 =>
  stsT 2 x4 t17 w7 fun w8 =>
  ldsT 2 x4 w8 fun r9 =>
  R r9 w8
def Fspec_l71End.j1 (x0 x1 x4 x10 : Value) (w : World) (R : VW) : Prop := ∀ _ : Env,
  condT x10
  (bldT #[(.int .i64 0), (.int .i64 0)] [(0, 1, (.int .i64 16))] fun t13 =>
  stsT 2 x4 t13 w fun w5 =>
  ldsT 2 x4 w5 fun r6 =>
  R r6 w5)
  (Fspec_l71End.j2 x0 x1 x4 x10 w R)
def Fspec_l71End (t0 t1 : Value) (w : World) (R : VW) : Prop :=
  allocT 221 #[(.int .i64 0), (.int .i64 0)] w fun t4 w1 =>
  clT PR 139 [t0, (.int .i64 4)] w1 fun t6 w2 =>
  binT .eql t6 (.int .i64 0) fun t8 =>
  condT t8
  (bldT #[(.int .i64 0), (.int .i64 0)] [(0, 1, (.int .i64 4))] fun t9 =>
  stsT 2 t4 t9 w2 fun w3 =>
  ldsT 2 t4 w3 fun r4 =>
  R r4 w3)
  (binT .eql t6 (.int .i64 1) fun t11 =>
  condT t11
  (Fspec_l71End.j1 t0 t1 t4 t11 w2 R)
  (binT .eql t6 (.int .i64 2) fun t12 =>
  Fspec_l71End.j1 t0 t1 t4 t12 w2 R))
def Fspec_l71End.H : Hints := {join := fun i => match i with | 10 => some [0, 1, 4, 10] | _ => none}
theorem Fspec_l71End.eq (t0 t1 : Value) : trF PR CX Fspec_l71End.H Tryz.f263 [t0, t1] = Fspec_l71End t0 t1 := by kernel_rfl
theorem Fspec_l71End.cl {t0 t1 : Value} {w : World} {R : VW} (h : Fspec_l71End t0 t1 w R) : clT PR 263 [t0, t1] w R := cl_of_tr (H := Fspec_l71End.H) ctxOk Tryz.func263 rfl (by rw [Fspec_l71End.eq]; exact h)
def Fspec_l71Args.l1 (x0 x1 x2 x6 x7 x8 : Value) (w : World) (Kn Kb Kr : LW) : Prop := ∀ _ : Env,
  binT .lss x8 x1 fun t12 =>
  condT t12
  (clT PR 139 [x0, (.int .i64 4)] w fun t16 w2 =>
  binT .eql t16 (.int .i64 0) fun t25 =>
  condT t25
  (bldT #[(.int .i64 0), (.int .i64 0)] [(0, 1, (.int .i64 11))] fun t27 =>
  bslT 221 1 2 #[(.int .i64 0), (.int .i64 0)] [(0, 2, t27)] w2 fun t28 w3 =>
  opT PR (Builtin.append_ #[197, 197] 197 #[x7, t28]) w3 fun t29 w4 =>
  binT .add x8 (.int .i64 1) fun t14 =>
  Kn [x0, x1, x2, x6, t29, t14] w4)
  (binT .eql t16 (.int .i64 1) fun t31 =>
  condT t31
  (clT PR 139 [x0, (.int .i64 10)] w2 fun t34 w5 =>
  bldT #[(.int .i64 0), (.int .i64 0)] [(0, 1, (.int .i64 1)), (1, 1, t34)] fun t35 =>
  bslT 221 1 2 #[(.int .i64 0), (.int .i64 0)] [(0, 2, t35)] w5 fun t36 w6 =>
  opT PR (Builtin.append_ #[197, 197] 197 #[x7, t36]) w6 fun t37 w7 =>
  binT .add x8 (.int .i64 1) fun t14 =>
  Kn [x0, x1, x2, x6, t37, t14] w7)
  (clT PR 139 [x0, x2] w2 fun t20 w8 =>
  bldT #[(.int .i64 0), (.int .i64 0)] [(0, 1, (.int .i64 2)), (1, 1, t20)] fun t21 =>
  bslT 221 1 2 #[(.int .i64 0), (.int .i64 0)] [(0, 2, t21)] w8 fun t22 w9 =>
  opT PR (Builtin.append_ #[197, 197] 197 #[x7, t22]) w9 fun t23 w10 =>
  binT .add x8 (.int .i64 1) fun t14 =>
  Kn [x0, x1, x2, x6, t23, t14] w10)))
  (Kb [x0, x1, x2, x6, x7, x8] w)
def Fspec_l71Args.k2 (x0 x1 x2 x6 x7 x8 : Value) (w : World) (R : VW) : Prop := ∀ _ : Env,
  R x7 w
def Fspec_l71Args.r3 (x0 x1 x2 x6 x7 x8 : Value) (w : World) (R : VW) : Prop := ∀ _ : Env,
  R x6 w
def Fspec_l71Args (t0 t1 t2 : Value) (w : World) (R : VW) : Prop :=
  bslT 221 0 2 #[] [] w fun t9 w1 =>
  loopT (fun s w Kn Kb Kr => Fspec_l71Args.l1 (s.headD undef) (s.tail.headD undef) (s.tail.tail.headD undef) (s.tail.tail.tail.headD undef) (s.tail.tail.tail.tail.headD undef) (s.tail.tail.tail.tail.tail.headD undef) w Kn Kb Kr) [t0, t1, t2, (.slice none 0 0), t9, (.int .i64 0)] w1
  (fun s w => Fspec_l71Args.k2 (s.headD undef) (s.tail.headD undef) (s.tail.tail.headD undef) (s.tail.tail.tail.headD undef) (s.tail.tail.tail.tail.headD undef) (s.tail.tail.tail.tail.tail.headD undef) w R)
  (fun s w => Fspec_l71Args.r3 (s.headD undef) (s.tail.headD undef) (s.tail.tail.headD undef) (s.tail.tail.tail.headD undef) (s.tail.tail.tail.tail.headD undef) (s.tail.tail.tail.tail.tail.headD undef) w R)
def Fspec_l71Args.H : Hints := {loop := fun i => match i with | 3 => some (0, [0, 1, 2, 6, 7, 8]) | _ => none}
theorem Fspec_l71Args.eq (t0 t1 t2 : Value) : trF PR CX Fspec_l71Args.H Tryz.f264 [t0, t1, t2] = Fspec_l71Args t0 t1 t2 := by kernel_rfl
theorem Fspec_l71Args.cl {t0 t1 t2 : Value} {w : World} {R : VW} (h : Fspec_l71Args t0 t1 t2 w R) : clT PR 264 [t0, t1, t2] w R := cl_of_tr (H := Fspec_l71Args.H) ctxOk Tryz.func264 rfl (by rw [Fspec_l71Args.eq]; exact h)
def Fspec_l71Look.j3 (x0 x5 x23 x30 : Value) (w : World) (R : VW) : Prop := ∀ _ : Env,
  R x5 w
def Fspec_l71Look.j2 (x0 x5 x23 x30 : Value) (w : World) (R : VW) : Prop := ∀ _ : Env,
  condT x30
  (clT PR 139 [x0, (.int .i64 4)] w fun t35 w10 =>
  bldT #[(.int .i64 0), (.int .i64 0)] [(0, 1, (.int .i64 13)), (1, 1, t35)] fun t36 =>
  bslT 221 1 2 #[(.int .i64 0), (.int .i64 0)] [(0, 2, t36)] w10 fun t37 w11 =>
  opT PR (Builtin.append_ #[197, 197] 197 #[x5, t37]) w11 fun t38 w12 =>
  R t38 w12)
  (binT .eql x23 (.int .i64 3) fun t40 =>
  condT t40
  (bldT #[(.int .i64 0), (.int .i64 0)] [(0, 1, (.int .i64 17))] fun t42 =>
  bslT 221 1 2 #[(.int .i64 0), (.int .i64 0)] [(0, 2, t42)] w fun t43 w13 =>
  opT PR (Builtin.append_ #[197, 197] 197 #[x5, t43]) w13 fun t44 w14 =>
  R t44 w14)
  (binT .eql x23 (.int .i64 4) fun t46 =>
  condT t46
  (bldT #[(.int .i64 0), (.int .i64 0)] [(0, 1, (.int .i64 18))] fun t48 =>
  bslT 221 1 2 #[(.int .i64 0), (.int .i64 0)] [(0, 2, t48)] w fun t49 w15 =>
  opT PR (Builtin.append_ #[197, 197] 197 #[x5, t49]) w15 fun t50 w16 =>
  R t50 w16)
  (Fspec_l71Look.j3 x0 x5 x23 x30 w R)))
def Fspec_l71Look.j1 (x0 x5 : Value) (w : World) (R : VW) : Prop := ∀ _ : Env,
  clT PR 139 [x0, (.int .i64 6)] w fun t23 w7 =>
  binT .eql t23 (.int .i64 0) fun t25 =>
  condT t25
  (bldT #[(.int .i64 0), (.int .i64 0)] [(0, 1, (.int .i64 12))] fun t27 =>
  bslT 221 1 2 #[(.int .i64 0), (.int .i64 0)] [(0, 2, t27)] w7 fun t28 w8 =>
  opT PR (Builtin.append_ #[197, 197] 197 #[x5, t28]) w8 fun t29 w9 =>
  R t29 w9)
  (binT .eql t23 (.int .i64 1) fun t31 =>
  condT t31
  (Fspec_l71Look.j2 x0 x5 t23 t31 w7 R)
  (binT .eql t23 (.int .i64 2) fun t32 =>
  Fspec_l71Look.j2 x0 x5 t23 t32 w7 R))
def Fspec_l71Look.j5 (x0 x5 x17 : Value) (w : World) (R : VW) : Prop := ∀ _ : Env,
  Fspec_l71Look.j1 x0 x5 w R
def Fspec_l71Look.j4 (x0 x5 x17 : Value) (w : World) (R : VW) : Prop := ∀ _ : Env,
  condT x17
  (bslT 3 4 1 #[(.int .i64 0)] [(0, 1, (.int .i64 11)), (1, 1, (.int .i64 0)), (2, 1, (.int .i64 12)), (3, 1, (.int .i64 0))] w fun t20 w17 =>
  clT PR 262 [t20] w17 fun t21 w18 =>
  Fspec_l71Look.j5 x0 t21 x17 w18 R)
  (Fspec_l71Look.j5 x0 x5 x17 w R)
def Fspec_l71Look (t0 t1 : Value) (w : World) (R : VW) : Prop :=
  bslT 3 2 1 #[(.int .i64 0)] [(0, 1, (.int .i64 11)), (1, 1, (.int .i64 0))] w fun t6 w1 =>
  clT PR 262 [t6] w1 fun t7 w2 =>
  clT PR 139 [t0, (.int .i64 5)] w2 fun t9 w3 =>
  binT .eql t9 (.int .i64 0) fun t11 =>
  condT t11
  (clT PR 139 [t0, t1] w3 fun t14 w4 =>
  bslT 3 2 1 #[(.int .i64 0)] [(0, 1, (.int .i64 2)), (1, 1, t14)] w4 fun t15 w5 =>
  clT PR 262 [t15] w5 fun t16 w6 =>
  Fspec_l71Look.j1 t0 t16 w6 R)
  (binT .eql t9 (.int .i64 1) fun t18 =>
  condT t18
  (Fspec_l71Look.j4 t0 t7 t18 w3 R)
  (binT .eql t9 (.int .i64 2) fun t19 =>
  Fspec_l71Look.j4 t0 t7 t19 w3 R))
def Fspec_l71Look.H : Hints := {join := fun i => match i with | 10 => some [0, 5] | 17 => some [0, 5, 17] | 30 => some [0, 5, 23, 30] | _ => none}
theorem Fspec_l71Look.eq (t0 t1 : Value) : trF PR CX Fspec_l71Look.H Tryz.f265 [t0, t1] = Fspec_l71Look t0 t1 := by kernel_rfl
theorem Fspec_l71Look.cl {t0 t1 : Value} {w : World} {R : VW} (h : Fspec_l71Look t0 t1 w R) : clT PR 265 [t0, t1] w R := cl_of_tr (H := Fspec_l71Look.H) ctxOk Tryz.func265 rfl (by rw [Fspec_l71Look.eq]; exact h)
end Go.PT
namespace Go.PT
attribute [local irreducible] ldT ldsT stT stsT allocT boxT bldT bslT nilT fadT ixaT fldT extT lenT pickT binT notT cviT opT opU condT clT clvT ivT loopT arT ndT World.cell? World.frozen? World.alloc World.drew World.setCell Blk Cells Sl
variable {α : Type}
def opW (n t : Int) (op : V) : Prop := ∀ (p : Pg) (m : Meth), (p.length : Int) = n → m.temps = t → opOk p m op = true
def opsW (n t : Int) (l : List V) : Prop := ∀ op ∈ l, opW n t op
theorem opsW.nil {n t : Int} : opsW n t [] := fun _ h => by cases h
theorem opsW.add {n t : Int} {l : List V} {op : V} (h : opsW n t l) (k : opW n t op) : opsW n t (l ++ [op]) := fun x hx => by
  rcases List.mem_append.mp hx with hx | hx
  · exact h x hx
  · rw [List.mem_singleton.mp hx]; exact k
theorem opsW.cons {n t : Int} {l : List V} {op : V} (k : opW n t op) (h : opsW n t l) : opsW n t (op :: l) := fun x hx => by
  rcases List.mem_cons.mp hx with rfl | hx
  · exact k
  · exact h x hx
theorem opW.num {n t x : Int} (h0 : 0 ≤ x) (h1 : x ≤ 99) : opW n t (1, x) := fun p m _ _ => by unfold opOk; simp [inB_t h0 h1]
theorem opW.temp {n t x : Int} (h0 : 0 ≤ x) (h1 : x < t) : opW n t (2, x) := fun p m _ ht => by unfold opOk; rw [if_neg (by simp), if_pos (by simp)]; exact inB_t h0 (by simp only; omega)
theorem opW.set {n t x : Int} (h0 : 0 ≤ x) (h1 : x < t) : opW n t (3, x) := fun p m _ ht => by unfold opOk; rw [if_neg (by simp), if_pos (by simp)]; exact inB_t h0 (by simp only; omega)
theorem opW.call {n t x : Int} (h0 : 0 ≤ x) (h1 : x < n) : opW n t (9, x) := fun p m hn _ => by unfold opOk; rw [if_neg (by simp), if_neg (by simp), if_neg (by simp), if_pos (by simp)]; exact inB_t h0 (by simp only; omega)
theorem opW.slot {n t k x : Int} (h0 : 0 ≤ x) (h1 : x ≤ 3) (hk : k = 13 ∨ k = 14) : opW n t (k, x) := fun p m hn _ => by rcases hk with rfl | rfl <;> (unfold opOk; simp [inB_t h0 h1])
theorem opW.bare {n t : Int} (k : Int) (h : k ∈ [4, 5, 6, 10, 11, 12, 15, 16, 17, 18]) : opW n t (k, 0) := fun p m hn _ => by
  simp only [List.mem_cons, List.not_mem_nil, or_false] at h
  rcases h with rfl | rfl | rfl | rfl | rfl | rfl | rfl | rfl | rfl | rfl <;> (unfold opOk; simp [inB])
def flat2 : List V → List Int
  | [] => []
  | x :: l => x.1 :: x.2 :: flat2 l
theorem flat2_len : ∀ l : List V, (flat2 l).length = 2 * l.length
  | [] => rfl
  | x :: l => by rw [flat2, List.length_cons, List.length_cons, flat2_len l, List.length_cons]; omega
theorem flat2_at : ∀ (l : List V) (j : Nat) (x : V), l[j]? = some x → (flat2 l)[2 * j]? = some x.1 ∧ (flat2 l)[2 * j + 1]? = some x.2
  | [], j, x, h => by simp at h
  | y :: l, 0, x, h => by simp at h; subst h; exact ⟨rfl, rfl⟩
  | y :: l, j + 1, x, h => by
    rw [show 2 * (j + 1) = 2 * j + 1 + 1 by omega]
    exact flat2_at l j x (by simpa using h)
theorem c_ops {xs : List V} {v : Value} {w : World} {R : VW} (h : Sl kInt Any w [] (flat2 xs) v) (hl : xs.length ≤ 1000)
    (hR : ∀ v' w' M, Ext w w' → Born w M → Lim M w' → Sl kPair (Own M) w' [] xs v' → R v' w') : clT PR 262 [v] w R := by
  refine Fspec_l71Ops.cl ?_
  unfold Fspec_l71Ops
  have E := En.start w
  refine E.bsl rfl rfl rfl (fun b0 w1 E e1 => ?_)
  have hfl := flat2_len xs
  refine loop_of (fun m s wx => ∃ (i : Nat) (v' : Value) (L : Lab), s = [v, .slice none 0 0, v', .int .i64 ((2 * i : Nat) : Int)] ∧ i + m = xs.length ∧ En noL w L wx [] ∧ Sl kPair (Own L) wx [] (xs.take i) v') ?_ (m := xs.length)
    ⟨0, _, noL, rfl, by omega, E.pop, Sl.none0⟩
  clear E
  rintro m s wx Kn ⟨i, v', L, rfl, hi, E, hv⟩ hKn
  intro _
  simp only [List.headD_cons, List.tail_cons]
  repeat (first | ((refine lss_of ?_)) | ((refine add_of (by (omega)) (by (omega)) ?_)) | (refine Sl.len_of (by assumption) ?_))
  refine condLt_of (fun hc => ?_) (fun hc => ?_)
  · have hil : i < xs.length := by omega
    obtain ⟨g1, g2⟩ := flat2_at xs i _ (List.getElem?_eq_getElem hil)
    replace E := E.drew
    repeat ((fail))
    refine int_ix (E.any (q := []) h) (by omega) (by omega) (fun b o hcell => ?_)
    have q1 : intAt (flat2 xs) ((2 * i : Nat) : Int) = xs[i].1 := by rw [intAt, Int.toNat_natCast]; exact intAt_of g1
    rw [q1] at hcell
    refine ld_of hcell ?_
    repeat (((refine add_of (by (omega)) (by (omega)) ?_)))
    refine int_ix (E.any (q := []) h) (by omega) (by omega) (fun b' o' hcell' => ?_)
    have q2 : intAt (flat2 xs) (((2 * i : Nat) : Int) + 1) = xs[i].2 := by rw [intAt, show (((2 * i : Nat) : Int) + 1).toNat = 2 * i + 1 by omega]; exact intAt_of g2
    rw [q2] at hcell'
    refine ld_of hcell' ?_
    refine bld_of (cs := #[.int .i64 xs[i].1, .int .i64 xs[i].2]) rfl ?_
    refine E.bsl rfl rfl rfl (fun b2 w2 E e2 => ?_)
    refine grow_lit [xs[i]] (by kernel_rfl) (hv.drewX.keepX e2) (E.blk (.head _)) rfl (by simp; omega) E.mu.lim (fun v9 w9 L9 g9 _ h9 => ?_)
    replace E := E.grow g9
    repeat (((refine add_of (by (omega)) (by (omega)) ?_)))
    refine hKn (m - 1) _ _ (by omega) ⟨i + 1, v9, L9, by rw [show ((2 * (i + 1) : Nat) : Int) = ((2 * i : Nat) : Int) + 2 by omega], by omega, E.pop, ?_⟩
    rw [List.take_add_one, List.getElem?_eq_getElem hil]
    exact h9
  · intro _
    have hei : xs.take i = xs := List.take_of_length_le (by omega)
    rw [hei] at hv
    exact hR _ _ _ E.toExt E.born E.mu.lim hv
theorem flat1 {β : Type} (f : α → β) : ∀ l : List α, (l.map fun x => [f x]).flatten = l.map f
  | [] => rfl
  | x :: l => by rw [List.map_cons, List.flatten_cons, flat1 f l]; rfl
structure Kp (i : Nat) (L : Lab) (w : World) (L' : Lab) (w' : World) : Prop where
  fr : Fr (fun b => L b = some [i]) w w'
  lab : ∀ b p, L b = some p → L' b = some p
theorem Sl.kp {kd : Kd α} {i j : Nat} {q : List Nat} {L L' : Lab} {w w' : World} {xs : List α} {v : Value} (h : Sl kd (Own L) w (j :: q) xs v) (T : Kp i L w L' w') (hi : j ≠ i) : Sl kd (Own L') w' (j :: q) xs v :=
  h.own T.fr (fun b s hb => ⟨fun e => by rw [hb] at e; simp at e; exact hi e.1, T.lab _ _ hb⟩)
section
variable {r : Nat} {code : List Int} {pos pos' d : Int} {w0 w w' : World} {L L' M : Lab} {l : List (Nat × List Value)}
theorem kp_of {i : Nat} {w1 : World} (e : Ext w w1) (g : Grw [i] L w1 L' w') (hl : Lim L w) : Kp i L w L' w' :=
  ⟨e.trans' g.fr (fun _ _ h => h.elim) (fun _ _ h => h), fun b p h => g.lx.lab (hl.fr e) h⟩
theorem ER.app1 {t ty e i : Nat} {z : Array Value} {k : VW} {xs : List V} {v : Value} {op : V} (E : ER r code pos w0 L w l) (hc : appB PR t (PR.elem t) 2 = true) (hv : Sl kPair (Own L) w [i] xs v) (hn : xs.length + 1 ≤ 1073741824) (hi : i ≠ 9)
    (hk : ∀ v' w' L', ER r code pos w0 L' w' l → Kp i L w L' w' → Sl kPair (Own L') w' [i] (xs ++ [op]) v' → k v' w') :
    bslT e 1 2 z [(0, 2, .agg #[.int .i64 op.1, .int .i64 op.2])] w fun t1 w2 => opT PR (Builtin.append_ #[t, t] ty #[v, t1]) w2 k :=
  E.bsl rfl rfl rfl (fun b2 w2 E2 e2 => grow_lit [op] hc (hv.keepX e2) (E2.en.blk (.head _)) rfl (by simpa using hn) E2.en.mu.lim (fun v' w' L' g _ h => hk v' w' L' (E2.pop.grow g (by simpa using hi)) (kp_of e2 g E.en.mu.lim) h))
theorem ER.draw {kd : Kd α} {xs : List α} {v : Value} (E : ER r code pos w0 L w l) (i : Nat) (D : Dn r code pos d w w' M pos') (h : Sl kd (Own M) w' [] xs v) : ∃ L', ER r code pos' w0 L' w' l ∧ Tk r L w L' w' ∧ Sl kd (Own L') w' [i] xs v :=
  ⟨joinL L [i] M, (E.take [i] D).1, (E.take [i] D).2, h.inR (q := [i]) (E.apart D)⟩
theorem ER.made {kd : Kd α} {xs : List α} {v : Value} (E : ER r code pos w0 L w l) (i : Nat) (e : Ext w w') (hb : Born w M) (hm : Lim M w') (h : Sl kd (Own M) w' [] xs v) : ∃ L', ER r code pos w0 L' w' l ∧ Tk r L w L' w' ∧ Sl kd (Own L') w' [i] xs v :=
  ⟨joinL L [i] M, E.join [i] e hb hm, ⟨Fr.to e (fun _ _ h => h.elim), E.lab, fun b p h => joinL_left h⟩, h.inR (q := [i]) (apart_of E.en.mu.lim hb)⟩
theorem ER.ops {e n : Nat} {z : Array Value} {parts : List (Nat × Nat × Value)} {R : VW} (E : ER r code pos w0 L w l) (xs : List V) (hp : parts = full 1 0 (parts.map fun p => p.2.2)) (hn : n = parts.length) (hs : (parts.all fun p => p.2.2.cells.size == 1) = true)
    (hc : flat (parts.map fun p => p.2.2) = (flat2 xs).map fun x => Value.int .i64 x) (hl : parts.length = (flat2 xs).length) (hx : xs.length ≤ 1000) (hR : ∀ v' w' L', ER r code pos w0 L' w' l → Tk r L w L' w' → Sl kPair (Own L') w' [0] xs v' → R v' w') :
    bslT e n 1 z parts w fun t w2 => clT PR 262 [t] w2 R := by
  refine E.bsl hp hn hs (fun b w2 E2 e2 => ?_)
  have hb := E2.en.blk (.head _)
  have hin : Sl kInt Any w2 [] (flat2 xs) (.slice (some ⟨b, 0, none⟩) n n) := sl_flat (rest := []) (by rw [hc] at hb; rw [List.append_nil, flat1]; exact hb) (by omega) (Nat.le_refl _) hb.lt
  refine c_ops hin hx (fun v' w' M e3 hb3 hm3 h3 => ?_)
  obtain ⟨L', E', T, h'⟩ := E2.pop.made 0 e3 hb3 hm3 h3
  exact hR _ _ _ E' ⟨(Fr.to (S' := fun x => x = r) e2 (fun _ _ h => h.elim)).trans T.fr, E.lab, T.keep⟩ h'
end
theorem c_args {r : Nat} {code : List Int} {pos n t N : Int} {w : World} {R : VW} (hrd : Rd w r code pos) (hb : Bytes code) (hp : 0 ≤ pos) (hp' : pos ≤ 90000) (hn0 : 0 ≤ n) (hn : n ≤ 2) (ht0 : 1 ≤ t)
    (hR : ∀ v w' M pos' ops, Dn r code pos 4 w w' M pos' → Sl kPair (Own M) w' [] ops v → opsW N t ops → ops.length ≤ 2 → R v w') : clT PR 264 [.pointer (some ⟨r, 0, none⟩), .int .i64 n, .int .i64 t] w R := by
  refine Fspec_l71Args.cl ?_
  unfold Fspec_l71Args
  have E := ER.init hrd
  refine E.bsl rfl rfl rfl (fun b0 w1 E e1 => ?_)
  refine loop_of (fun m s wx => ∃ (i : Nat) (v' : Value) (L : Lab) (ops : List V) (q : Int), s = [.pointer (some ⟨r, 0, none⟩), .int .i64 n, .int .i64 t, .slice none 0 0, v', .int .i64 i] ∧ (i : Int) + m = n ∧ ops.length = i ∧ opsW N t ops ∧ pos ≤ q ∧ q ≤ pos + 2 * i ∧
    ER r code q w L wx [] ∧ Sl kPair (Own L) wx [0] ops v') ?_ (m := n.toNat)
    ⟨0, _, labR r, [], pos, rfl, by omega, rfl, opsW.nil, by omega, by omega, E.pop, Sl.none0⟩
  clear E
  rintro m s wx Kn ⟨i, v', L, ops, q, rfl, hi, hol, how, hq0, hq1, E, hv⟩ hKn
  intro _
  simp only [List.headD_cons, List.tail_cons]
  repeat (((refine lss_of ?_)))
  refine condLt_of (fun hc => ?_) (fun hc => ?_)
  · refine c_pickE E hb (by omega) (by omega) (by omega) (fun x w2 hx0 hx1 E T => ?_)
    replace hv := hv.tr T (by decide)
    have next : ∀ (op : V) (wz : World) (L' : Lab) (v9 : Value) (q' : Int), opW N t op → q ≤ q' → q' ≤ q + 2 → ER r code q' w L' wz [] → Sl kPair (Own L') wz [0] (ops ++ [op]) v9 → Kn [.pointer (some ⟨r, 0, none⟩), .int .i64 n, .int .i64 t, .slice none 0 0, v9, .int .i64 ((i : Int) + 1)] wz := by
      intro op wz L' v9 q' hop h1 h2 E' h9
      exact hKn (m - 1) _ _ (by omega) ⟨i + 1, v9, L', ops ++ [op], q', rfl, by omega, by simp [hol], how.add hop, by omega, by omega, E', h9⟩
    repeat (((refine eql_of ?_)))
    refine condP_of (fun hk => ?_) (fun hk => ?_)
    · refine bld_of (cs := #[.int .i64 11, .int .i64 0]) rfl ?_
      refine E.app1 (op := (11, 0)) (by kernel_rfl) hv (by omega) (by decide) (fun v9 w9 L9 E9 T9 h9 => ?_)
      repeat (((refine add_of (by (omega)) (by (omega)) ?_)))
      exact next _ _ _ _ _ (opW.bare 11 (by decide)) (by omega) (by omega) E9 h9
    · repeat (((refine eql_of ?_)))
      refine condP_of (fun hk2 => ?_) (fun hk2 => ?_)
      · refine c_pickE E hb (by omega) (by omega) (by omega) (fun y w3 hy0 hy1 E T => ?_)
        replace hv := hv.tr T (by decide)
        refine bld_of (cs := #[.int .i64 1, .int .i64 y]) rfl ?_
        refine E.app1 (op := (1, y)) (by kernel_rfl) hv (by omega) (by decide) (fun v9 w9 L9 E9 T9 h9 => ?_)
        repeat (((refine add_of (by (omega)) (by (omega)) ?_)))
        exact next _ _ _ _ _ (opW.num hy0 (by omega)) (by omega) (by omega) E9 h9
      · refine c_pickE E hb (by omega) (by omega) (by omega) (fun y w3 hy0 hy1 E T => ?_)
        replace hv := hv.tr T (by decide)
        refine bld_of (cs := #[.int .i64 2, .int .i64 y]) rfl ?_
        refine E.app1 (op := (2, y)) (by kernel_rfl) hv (by omega) (by decide) (fun v9 w9 L9 E9 T9 h9 => ?_)
        repeat (((refine add_of (by (omega)) (by (omega)) ?_)))
        exact next _ _ _ _ _ (opW.temp hy0 hy1) (by omega) (by omega) E9 h9
  · intro _
    exact hR _ _ _ q ops (E.done 0 hq0 (by omega) (by decide)) hv.sub how (by omega)
theorem c_end {r : Nat} {code : List Int} {pos t N : Int} {w : World} {R : VW} (hrd : Rd w r code pos) (hb : Bytes code) (hp : 0 ≤ pos) (hp' : pos ≤ 90000) (ht0 : 1 ≤ t)
    (hR : ∀ w' pos' op, Dn r code pos 2 w w' noL pos' → opW N t op → R (.agg #[.int .i64 op.1, .int .i64 op.2]) w') : clT PR 263 [.pointer (some ⟨r, 0, none⟩), .int .i64 t] w R := by
  refine Fspec_l71End.cl ?_
  unfold Fspec_l71End
  have E := ER.init hrd
  refine E.al (fun b1 w1 E e1 => ?_)
  have next : ∀ (op : V) (wz : World) (q' : Int), opW N t op → pos ≤ q' → q' ≤ pos + 2 → ER r code q' w (labR r) wz [(b1, [.int .i64 0, .int .i64 0])] → stsT 2 (.pointer (some ⟨b1, 0, none⟩)) (.agg #[.int .i64 op.1, .int .i64 op.2]) wz fun w3 => ldsT 2 (.pointer (some ⟨b1, 0, none⟩)) w3 fun r4 => R r4 w3 := by
    intro op wz q' hop h1 h2 E'
    refine ER.sts' (vs := [.int .i64 op.1, .int .i64 op.2]) [] rfl E' rfl rfl (by simp [Value.oneCell']) (fun w3 E3 e3 => ?_)
    refine E3.en.lds (.head _) rfl ?_
    exact hR _ q' op ⟨E3.fr, E3.rd, h1, h2, noL_born _, noL_lim _⟩ hop
  refine c_pickE E hb (by omega) (by omega) (by omega) (fun x w2 hx0 hx1 E T => ?_)
  repeat (((refine eql_of ?_)))
  refine condP_of (fun hk => ?_) (fun hk => ?_)
  · refine bld_of (cs := #[.int .i64 4, .int .i64 0]) rfl ?_
    exact next (4, 0) _ _ (opW.bare 4 (by decide)) (by omega) (by omega) E
  · repeat (((refine eql_of ?_)))
    have fin : ∀ (q : Bool), Fspec_l71End.j1 (.pointer (some ⟨r, 0, none⟩)) (.int .i64 t) (.pointer (some ⟨b1, 0, none⟩)) (.bool q) w2 R := by
      intro q _
      refine cond_of (fun _ => ?_) (fun _ => ?_)
      · refine bld_of (cs := #[.int .i64 16, .int .i64 0]) rfl ?_
        exact next (16, 0) _ _ (opW.bare 16 (by decide)) (by omega) (by omega) E
      · intro _
        refine c_pickE E hb (by omega) (by omega) (by omega) (fun y w3 hy0 hy1 E T => ?_)
        refine bld_of (cs := #[.int .i64 3, .int .i64 y]) rfl ?_
        exact next (3, y) _ _ (opW.set hy0 hy1) (by omega) (by omega) E
    refine condP_of (fun hk1 => ?_) (fun hk1 => ?_)
    · exact fin _
    · repeat (((refine eql_of ?_)))
      exact fin _
end Go.PT
namespace Go.PT
attribute [local irreducible] ldT ldsT stT stsT allocT boxT bldT bslT nilT fadT ixaT fldT extT lenT pickT binT notT cviT opT opU condT clT clvT ivT loopT arT ndT World.cell? World.frozen? World.alloc World.drew World.setCell Blk Cells Sl
theorem c_look71 {r : Nat} {code : List Int} {pos t N : Int} {w : World} {R : VW} (hrd : Rd w r code pos) (hb : Bytes code) (hp : 0 ≤ pos) (hp' : pos ≤ 90000) (ht0 : 1 ≤ t)
    (hR : ∀ v w' M pos' ops, Dn r code pos 4 w w' M pos' → Sl kPair (Own M) w' [] ops v → opsW N t ops → ops.length ≤ 3 → R v w') : clT PR 265 [.pointer (some ⟨r, 0, none⟩), .int .i64 t] w R := by
  refine Fspec_l71Look.cl ?_
  unfold Fspec_l71Look
  have E := ER.init hrd
  have here : opsW N t [(11, 0)] := opsW.cons (opW.bare 11 (by decide)) opsW.nil
  refine E.ops [(11, 0)] rfl rfl rfl rfl rfl (by simp) (fun v1 w1 L1 E T h1 => ?_)
  refine c_pickE E hb (by omega) (by omega) (by omega) (fun x w2 hx0 hx1 E T => ?_)
  replace h1 := h1.tr T (by decide)
  have last : ∀ (q : Int) (v : Value) (ops : List V) (wz : World) (L : Lab), ER r code q w L wz [] → pos ≤ q → q ≤ pos + 2 → Sl kPair (Own L) wz [0] ops v → opsW N t ops → ops.length ≤ 2 →
      Fspec_l71Look.j1 (.pointer (some ⟨r, 0, none⟩)) v wz R := by
    intro q v ops wz L E hq0 hq1 h how hlen _
    have fin : ∀ (op : V) (w3 : World) (L' : Lab) (v9 : Value) (q' : Int), opW N t op → pos ≤ q' → q' ≤ pos + 4 → ER r code q' w L' w3 [] → Sl kPair (Own L') w3 [0] (ops ++ [op]) v9 → R v9 w3 := by
      intro op w3 L' v9 q' hop h1 h2 E' h9
      exact hR _ _ _ q' _ (E'.done 0 h1 h2 (by decide)) h9.sub (how.add hop) (by simp; omega)
    refine c_pickE E hb (by omega) (by omega) (by omega) (fun y w3 hy0 hy1 E T => ?_)
    replace h := h.tr T (by decide)
    repeat (((refine eql_of ?_)))
    have j2 : ∀ (b : Bool), Fspec_l71Look.j2 (.pointer (some ⟨r, 0, none⟩)) v (.int .i64 y) (.bool b) w3 R := by
      intro b _
      refine cond_of (fun _ => ?_) (fun _ => ?_)
      · refine c_pickE E hb (by omega) (by omega) (by omega) (fun z w4 hz0 hz1 E T => ?_)
        replace h := h.tr T (by decide)
        refine bld_of (cs := #[.int .i64 13, .int .i64 z]) rfl ?_
        refine E.app1 (op := (13, z)) (by kernel_rfl) h (by omega) (by decide) (fun v9 w9 L9 E9 T9 h9 => ?_)
        exact fin _ _ _ _ _ (opW.slot hz0 (by omega) (.inl rfl)) (by omega) (by omega) E9 h9
      · repeat (((refine eql_of ?_)))
        refine condP_of (fun hk => ?_) (fun hk => ?_)
        · refine bld_of (cs := #[.int .i64 17, .int .i64 0]) rfl ?_
          refine E.app1 (op := (17, 0)) (by kernel_rfl) h (by omega) (by decide) (fun v9 w9 L9 E9 T9 h9 => ?_)
          exact fin _ _ _ _ _ (opW.bare 17 (by decide)) (by omega) (by omega) E9 h9
        · repeat (((refine eql_of ?_)))
          refine condP_of (fun hk => ?_) (fun hk => ?_)
          · refine bld_of (cs := #[.int .i64 18, .int .i64 0]) rfl ?_
            refine E.app1 (op := (18, 0)) (by kernel_rfl) h (by omega) (by decide) (fun v9 w9 L9 E9 T9 h9 => ?_)
            exact fin _ _ _ _ _ (opW.bare 18 (by decide)) (by omega) (by omega) E9 h9
          · intro _
            exact hR _ _ _ _ ops (E.done 0 (by omega) (by omega) (by decide)) h.sub how (by omega)
    refine condP_of (fun hk => ?_) (fun hk => ?_)
    · refine bld_of (cs := #[.int .i64 12, .int .i64 0]) rfl ?_
      refine E.app1 (op := (12, 0)) (by kernel_rfl) h (by omega) (by decide) (fun v9 w9 L9 E9 T9 h9 => ?_)
      exact fin _ _ _ _ _ (opW.bare 12 (by decide)) (by omega) (by omega) E9 h9
    · repeat (((refine eql_of ?_)))
      refine condP_of (fun hk => ?_) (fun hk => ?_)
      · exact j2 _
      · repeat (((refine eql_of ?_)))
        exact j2 _
  repeat (((refine eql_of ?_)))
  have j4 : ∀ (b : Bool), Fspec_l71Look.j4 (.pointer (some ⟨r, 0, none⟩)) v1 (.bool b) w2 R := by
    intro b _
    refine cond_of (fun _ => ?_) (fun _ => ?_)
    · refine E.ops [(11, 0), (12, 0)] rfl rfl rfl rfl rfl (by simp) (fun v3 w3 L3 E T h3 => ?_)
      intro _
      exact last _ _ _ _ _ E (by omega) (by omega) h3 (opsW.cons (opW.bare 11 (by decide)) (opsW.cons (opW.bare 12 (by decide)) opsW.nil)) (by simp)
    · intro _
      exact last _ _ _ _ _ E (by omega) (by omega) h1 here (by decide)
  refine condP_of (fun hk => ?_) (fun hk => ?_)
  · refine c_pickE E hb (by omega) (by omega) (by omega) (fun y w3 hy0 hy1 E T => ?_)
    refine E.ops [(2, y)] rfl rfl rfl rfl rfl (by simp) (fun v3 w3 L3 E T h3 => ?_)
    exact last _ _ _ _ _ E (by omega) (by omega) h3 (opsW.cons (opW.temp hy0 hy1) opsW.nil) (by simp)
  · repeat (((refine eql_of ?_)))
    refine condP_of (fun hk => ?_) (fun hk => ?_)
    · exact j4 _
    · repeat (((refine eql_of ?_)))
      exact j4 _
theorem c_part {r : Nat} {code : List Int} {pos t : Int} {args : List Int} {va : Value} {w : World} {R : VW} (hrd : Rd w r code pos) (hb : Bytes code) (hp : 0 ≤ pos) (hp' : pos ≤ 80000) (ht0 : 1 ≤ t)
    (ha : Sl kInt Any w [] args va) (hu : Sl kInt (Un (labR r) w.heap.size) w [] args va) (ha1 : 1 ≤ args.length) (ha2 : args.length ≤ 1000) (haw : ∀ x ∈ args, 0 ≤ x ∧ x ≤ 2)
    (hR : ∀ v w' M pos' ops, Dn r code pos 10 w w' M pos' → Sl kPair (Own M) w' [] ops v → opsW args.length t ops → ops.length ≤ 4 → R v w') : clT PR 242 [.pointer (some ⟨r, 0, none⟩), va, .int .i64 t] w R := by
  refine Fspec_l71Part.cl ?_
  unfold Fspec_l71Part
  have E := ER.init hrd
  have fin : ∀ (q : Int) (v : Value) (ops : List V) (wz : World) (L : Lab), ER r code q w L wz [] → pos ≤ q → q ≤ pos + 10 → Sl kPair (Own L) wz [0] ops v → opsW args.length t ops → ops.length ≤ 4 → R v wz := by
    intro q v ops wz L E hq0 hq1 h how hlen
    exact hR _ _ _ q _ (E.done 0 hq0 hq1 (by decide)) h.sub how hlen
  refine c_pickE E hb (by omega) (by omega) (by omega) (fun x w1 hx0 hx1 E T => ?_)
  repeat (((refine eql_of ?_)))
  have tail : ∀ (q : Int) (v : Value) (ops : List V) (wz : World) (L : Lab), ER r code q w L wz [] → pos ≤ q → q ≤ pos + 8 → Sl kPair (Own L) wz [0] ops v → opsW args.length t ops → ops.length ≤ 3 → ∀ (tt ty e : Nat) (z : Array Value), appB PR tt (PR.elem tt) 2 = true →
      clT PR 263 [.pointer (some ⟨r, 0, none⟩), .int .i64 t] wz fun t19 w5 => bslT e 1 2 z [(0, 2, t19)] w5 fun t20 w6 => opT PR (Builtin.append_ #[tt, tt] ty #[v, t20]) w6 R := by
    intro q v ops wz L E hq0 hq1 h how hlen tt ty e z hc
    refine c_end (N := args.length) E.rd hb (by omega) (by omega) ht0 (fun w5 q5 op D hop => ?_)
    have h5 := D.lo
    have h6 := D.hi
    obtain ⟨E5, T5⟩ := E.take [7] D
    refine E5.app1 hc (h.tr T5 (by decide)) (by omega) (by decide) (fun v9 w9 L9 E9 T9 h9 => ?_)
    exact fin q5 _ _ _ _ E9 (by omega) (by omega) h9 (how.add hop) (by simp; omega)
  have j4 : ∀ (a b : Value) (u : Value), Fspec_l71Part.j4 (.pointer (some ⟨r, 0, none⟩)) a (.int .i64 t) u b w1 R := by
    intro a b u _
    refine c_pickE E hb (by omega) (by omega) (by omega) (fun y w2 hy0 hy1 E T => ?_)
    refine c_pickE E hb (by omega) (by omega) (by omega) (fun z w3 hz0 hz1 E T => ?_)
    refine E.ops [(1, y), (1, z), (5, 0), (16, 0)] rfl rfl rfl rfl rfl (by simp) (fun v3 w3 L3 E T h3 => ?_)
    exact fin _ _ _ _ _ E (by omega) (by omega) h3 (opsW.cons (opW.num hy0 (by omega)) (opsW.cons (opW.num hz0 (by omega)) (opsW.cons (opW.bare 5 (by decide)) (opsW.cons (opW.bare 16 (by decide)) opsW.nil)))) (by simp)
  have j2 : ∀ (b : Bool), Fspec_l71Part.j2 (.pointer (some ⟨r, 0, none⟩)) (.int .i64 t) (.int .i64 x) (.bool b) w1 R := by
    intro b _
    refine cond_of (fun _ => ?_) (fun _ => ?_)
    · refine c_look71 (N := args.length) E.rd hb (by omega) (by omega) ht0 (fun v2 w2 M q ops D hs how hlen => ?_)
      have h5 := D.lo
      have h6 := D.hi
      obtain ⟨L2, E, T, h⟩ := E.draw 0 D hs
      exact tail _ _ _ _ _ E (by omega) (by omega) h how hlen _ _ _ _ (by kernel_rfl)
    · repeat (((refine eql_of ?_)))
      refine condP_of (fun hk => ?_) (fun hk => ?_)
      · refine c_pickE E hb (by omega) (by omega) (by omega) (fun y w2 hy0 hy1 E T => ?_)
        refine E.ops [(11, 0), (3, y)] rfl rfl rfl rfl rfl (by simp) (fun v3 w3 L3 E T h3 => ?_)
        exact fin _ _ _ _ _ E (by omega) (by omega) h3 (opsW.cons (opW.bare 11 (by decide)) (opsW.cons (opW.set hy0 hy1) opsW.nil)) (by simp)
      · repeat (((refine eql_of ?_)))
        refine condP_of (fun hk => ?_) (fun hk => ?_)
        · refine c_pickE E hb (by omega) (by omega) (by omega) (fun y w2 hy0 hy1 E T => ?_)
          repeat (((refine eql_of ?_)))
          refine condP_of (fun hk => ?_) (fun hk => ?_)
          · refine c_pickE E hb (by omega) (by omega) (by omega) (fun y w2 hy0 hy1 E T => ?_)
            refine c_pickE E hb (by omega) (by omega) (by omega) (fun z w2 hz0 hz1 E T => ?_)
            refine E.ops [(11, 0), (12, 0), (1, y), (14, z)] rfl rfl rfl rfl rfl (by simp) (fun v3 w3 L3 E T h3 => ?_)
            exact fin _ _ _ _ _ E (by omega) (by omega) h3 (opsW.cons (opW.bare 11 (by decide)) (opsW.cons (opW.bare 12 (by decide)) (opsW.cons (opW.num hy0 (by omega)) (opsW.cons (opW.slot hz0 (by omega) (.inr rfl)) opsW.nil)))) (by simp)
          · refine c_pickE E hb (by omega) (by omega) (by omega) (fun y w2 hy0 hy1 E T => ?_)
            refine c_pickE E hb (by omega) (by omega) (by omega) (fun z w2 hz0 hz1 E T => ?_)
            refine E.ops [(2, y), (2, z), (6, 0), (16, 0)] rfl rfl rfl rfl rfl (by simp) (fun v3 w3 L3 E T h3 => ?_)
            exact fin _ _ _ _ _ E (by omega) (by omega) h3 (opsW.cons (opW.temp hy0 hy1) (opsW.cons (opW.temp hz0 hz1) (opsW.cons (opW.bare 6 (by decide)) (opsW.cons (opW.bare 16 (by decide)) opsW.nil)))) (by simp)
        · repeat (((refine eql_of ?_)))
          refine condP_of (fun hk => ?_) (fun hk => ?_)
          · refine c_pickE E hb (by omega) (by omega) (by omega) (fun y w2 hy0 hy1 E T => ?_)
            refine c_pickE E hb (by omega) (by omega) (by omega) (fun z w2 hz0 hz1 E T => ?_)
            refine E.ops [(2, y), (1, z), (15, 0)] rfl rfl rfl rfl rfl (by simp) (fun v3 w3 L3 E T h3 => ?_)
            refine bld_of (cs := #[.int .i64 4, .int .i64 0]) rfl ?_
            refine E.app1 (op := (4, 0)) (by kernel_rfl) h3 (by simp) (by decide) (fun v9 w9 L9 E9 T9 h9 => ?_)
            exact fin _ _ _ _ _ E9 (by omega) (by omega) h9 (opsW.add (opsW.cons (opW.temp hy0 hy1) (opsW.cons (opW.num hz0 (by omega)) (opsW.cons (opW.bare 15 (by decide)) opsW.nil))) (opW.bare 4 (by decide))) (by simp)
          · intro _
            exact j4 _ _ _
  have j1 : ∀ (b : Bool), Fspec_l71Part.j1 (.pointer (some ⟨r, 0, none⟩)) va (.int .i64 t) (.int .i64 x) (.bool b) w1 R := by
    intro b _
    refine cond_of (fun _ => ?_) (fun _ => ?_)
    · refine ha.len_of ?_
      refine c_pickE E hb (by omega) (by omega) (by omega) (fun k w2 hk0 hk1 E T => ?_)
      refine int_ix (E.en.unAny (q := []) hu (Nat.le_refl _)) hk0 hk1 (fun b o hcell => ?_)
      refine ld_of hcell ?_
      have hmem : intAt args k ∈ args := by
        unfold intAt
        rw [List.getD_eq_getElem?_getD, List.getElem?_eq_getElem (by omega : k.toNat < args.length)]
        exact List.getElem_mem _
      obtain ⟨a0, a2⟩ := haw _ hmem
      refine c_args (N := args.length) E.rd hb (by omega) (by omega) a0 a2 ht0 (fun v3 w3 M q ops D hs how hlen => ?_)
      have h5 := D.lo
      have h6 := D.hi
      obtain ⟨L3, E, T, h⟩ := E.draw 0 D hs
      refine bld_of (cs := #[.int .i64 9, .int .i64 k]) rfl ?_
      refine E.app1 (op := (9, k)) (by kernel_rfl) h (by omega) (by decide) (fun v9 w9 L9 E9 T9 h9 => ?_)
      exact tail _ _ _ _ _ E9 (by omega) (by omega) h9 (how.add (opW.call hk0 hk1)) (by simp; omega) _ _ _ _ (by kernel_rfl)
    · repeat (((refine eql_of ?_)))
      refine condP_of (fun hk => ?_) (fun hk => ?_)
      · exact j2 _
      · repeat (((refine eql_of ?_)))
        exact j2 _
  refine condP_of (fun hk => ?_) (fun hk => ?_)
  · refine c_pickE E hb (by omega) (by omega) (by omega) (fun y w2 hy0 hy1 E T => ?_)
    refine E.ops [(1, y)] rfl rfl rfl rfl rfl (by simp) (fun v3 w3 L3 E T h3 => ?_)
    exact tail _ _ _ _ _ E (by omega) (by omega) h3 (opsW.cons (opW.num hy0 (by omega)) opsW.nil) (by simp) _ _ _ _ (by kernel_rfl)
  · repeat (((refine eql_of ?_)))
    refine condP_of (fun hk => ?_) (fun hk => ?_)
    · exact j1 _
    · repeat (((refine eql_of ?_)))
      refine condP_of (fun hk => ?_) (fun hk => ?_)
      · intro _
        exact j1 _
      · repeat (((refine eql_of ?_)))
        intro _
        exact j1 _
end Go.PT
namespace Go.PT
theorem nd_none {k : Nat → Prop} : ndT [none] 0 k := by
  intro b hb
  simp at hb
attribute [local irreducible] ldT ldsT stT stsT allocT boxT bldT bslT nilT fadT ixaT fldT extT lenT pickT binT notT cviT opT opU condT clT clvT ivT loopT arT ndT World.cell? World.frozen? World.alloc World.drew World.setCell Blk Cells Sl
theorem max_of {P : Program} {ts : Array TypeId} {t : TypeId} {x y : Int} {w : World} {k : VW} (hk : k (.int .i64 (max x y)) w) : opT P (Builtin.max_ ts t #[.int .i64 x, .int .i64 y]) w k := by
  unfold opT
  rw [run_max_int2]
  have : (if y > x then y else x) = max x y := by split <;> omega
  rw [this]
  exact hk
def SlE (s : List (Option Nat)) (z : Array Value) (l0 l : List (Nat × List Value)) : Prop := (s = [none] ∧ l = l0) ∨ ∃ b, s = [some b] ∧ l = (b, z.toList) :: l0
section
variable {r : Nat} {code : List Int} {pos pos' d : Int} {w0 w w' : World} {L L' M : Lab} {l l0 : List (Nat × List Value)}
theorem ER.ar {t : Nat} {z : Array Value} {s : List (Option Nat)} {k : World → List (Option Nat) → Prop} (E : ER r code pos w0 L w l) (hs : SlE s z l0 l) (hk : ∀ w' s' l', ER r code pos w0 L w' l' → Ext w w' → SlE s' z l0 l' → k w' s') : arT [(t, z)] w s k := by
  rcases hs with ⟨rfl, rfl⟩ | ⟨b, rfl, rfl⟩
  · refine ar_slot Slot.init (Nat.le_refl _) (fun w' s' e hs => ?_)
    rcases hs with rfl | ⟨b, rfl, hb, kb⟩
    · exact hk _ _ _ (E.ext e) e (.inl ⟨rfl, rfl⟩)
    · exact hk _ _ _ ⟨E.en.add e hb kb, E.rd.fr e, E.lab, E.lt⟩ e (.inr ⟨b, rfl, rfl⟩)
  · exact ar_some (hk _ _ _ E (Fr.refl _ _) (.inr ⟨b, rfl, rfl⟩))
theorem SlE.nd {z : Array Value} {s : List (Option Nat)} {k : Nat → Prop} (hs : SlE s z l0 l) (hk : ∀ b, s = [some b] → l = (b, z.toList) :: l0 → k b) : ndT s 0 k := by
  rcases hs with ⟨rfl, rfl⟩ | ⟨b', rfl, rfl⟩
  · exact nd_none
  · exact nd_some (hk _ rfl rfl)
end
structure MI (n t skip : Int) (ops : List V) : Prop where
  at' : skip = -1 ∨ (0 ≤ skip ∧ skip < ops.length ∧ ∃ a, ops[skip.toNat]? = some (8, a))
  ok : ∀ (j : Nat) op, ops[j]? = some op → (j : Int) ≠ skip → opW n t op
theorem MI.app {n t skip : Int} {ops more : List V} (h : MI n t skip ops) (k : opsW n t more) : MI n t skip (ops ++ more) := by
  refine ⟨?_, fun j op hj hne => ?_⟩
  · rcases h.at' with h | ⟨h0, h1, a, ha⟩
    · exact .inl h
    · exact .inr ⟨h0, by rw [List.length_append]; omega, a, by rw [List.getElem?_append_left (by omega)]; exact ha⟩
  · rcases Nat.lt_or_ge j ops.length with hl | hl
    · rw [List.getElem?_append_left hl] at hj
      exact h.ok j op hj hne
    · rw [List.getElem?_append_right hl] at hj
      exact k op (List.mem_of_getElem? hj)
theorem MI.zero {n t : Int} {ops : List V} {x : Int} (h : MI n t (-1) ops) (k : opW n t (2, x)) : MI n t ((ops.length : Int) + 1) (ops ++ [(2, x), (8, 0)]) := by
  refine ⟨.inr ⟨by omega, by simp, 0, ?_⟩, fun j op hj hne => ?_⟩
  · rw [List.getElem?_append_right (by omega), show ((ops.length : Int) + 1).toNat - ops.length = 1 by omega]; rfl
  · rcases Nat.lt_or_ge j ops.length with hl | hl
    · rw [List.getElem?_append_left hl] at hj
      exact h.ok j op hj (by omega)
    · rw [List.getElem?_append_right hl] at hj
      have : j = ops.length := by
        have := (List.getElem?_eq_some_iff.mp hj).1
        simp at this; omega
      subst this
      rw [Nat.sub_self] at hj
      obtain rfl := Option.some.inj hj
      exact k
def opsM (n t : Int) (ops : List V) : Prop := ∀ (p : Pg) (m : Meth), (p.length : Int) = n → m.temps = t → m.ops = ops → m.ops.all (opOk p m) = true
theorem MI.done {n t skip : Int} {ops : List V} (h : MI n t skip ops) (e1 e2 : V) (k1 : opW n t e1) (k2 : opW n t e2) (hs : skip = -1 ∨ ∃ a, ops[skip.toNat]? = some (8, a) ∧ 0 ≤ a ∧ a ≤ ops.length) : opsM n t (ops ++ [e1, e2]) := by
  intro p m hn ht hm
  rw [hm, List.all_eq_true]
  intro op hop
  obtain ⟨j, hj⟩ := List.mem_iff_getElem?.mp hop
  by_cases hne : (j : Int) = skip
  · rcases hs with hs | ⟨a, ha, h0, h1⟩
    · omega
    · rw [← hne, Int.toNat_natCast] at ha
      have hl := (List.getElem?_eq_some_iff.mp ha).1
      rw [List.getElem?_append_left hl, ha] at hj
      obtain rfl := Option.some.inj hj
      unfold opOk
      rw [hm, if_neg (by simp), if_neg (by simp), if_pos (by simp)]
      exact inB_t h0 (by rw [List.length_append]; simp; omega)
  · exact (h.app (opsW.cons k1 (opsW.cons k2 opsW.nil))).ok j op hj hne p m hn ht
def mloc (b6 b7 : Nat) (a t : Int) (v : Value) : List (Nat × List Value) := [(b7, [.int .i64 a, .int .i64 t, v]), (b6, [.int .i64 0, .int .i64 0, .slice none 0 0])]
theorem c_methEnd {r : Nat} {code : List Int} {pos a t n : Int} {w0 w : World} {L : Lab} {b6 b7 : Nat} {ops : List V} {v : Value} {skip : Int} {R : VW} (E : ER r code pos w0 L w (mloc b6 b7 a t v)) (hb : Bytes code) (hp : 0 ≤ pos) (hp' : pos ≤ 90000) (ht : 1 ≤ t) (hv : Sl kPair (Own L) w [0] ops v) (hl : ops.length ≤ 12) (hm : MI n t skip ops)
    (hs : skip = -1 ∨ ∃ a, ops[skip.toNat]? = some (8, a) ∧ 0 ≤ a ∧ a ≤ ops.length)
    (hR : ∀ v' w' L' pos' ops', ER r code pos' w0 L' w' [] → pos ≤ pos' → pos' ≤ pos + 2 → Sl kPair (Own L') w' [0] ops' v' → opsM n t ops' → ops'.length ≤ 14 → R (.agg #[.int .i64 a, .int .i64 t, v']) w') :
    Fspec_l71Method.j2 (.pointer (some ⟨r, 0, none⟩)) (.pointer (some ⟨b6, 0, none⟩)) (.pointer (some ⟨b7, 0, none⟩)) w R := by
  unfold mloc at E
  intro _
  have last : ∀ (q : Int) (v : Value) (op : V) (wz : World) (L : Lab), ER r code q w0 L wz (mloc b6 b7 a t v) → pos ≤ q → q ≤ pos + 2 → Sl kPair (Own L) wz [0] (ops ++ [op]) v → opW n t op →
      Fspec_l71Method.j3 (.pointer (some ⟨b6, 0, none⟩)) (.pointer (some ⟨b7, 0, none⟩)) wz R := by
    intro q v op wz L E hq0 hq1 h hop _
    unfold mloc at E
    (refine fad_of ?_)
    refine E.en.ld (.head _) rfl ?_
    refine bld_of (cs := #[.int .i64 10, .int .i64 0]) rfl ?_
    refine E.app1 (op := (10, 0)) (by kernel_rfl) h (by simp; omega) (by decide) (fun v9 w9 L9 E T9 h9 => ?_)
    (refine fad_of ?_)
    refine ER.st' [] E (by simp) h9.one (fun w10 E e10 => ?_)
    replace h9 := h9.loc e10
    refine E.en.lds (.head _) rfl ?_
    refine ER.sts' (vs := [.int .i64 a, .int .i64 t, v9]) [_] rfl E rfl rfl (by intro u hu; simp at hu; rcases hu with rfl | rfl | rfl <;> first | rfl | exact h9.one) (fun w11 E e11 => ?_)
    refine E.en.lds (.tail _ (.head _)) rfl ?_
    refine hR v9 _ _ _ _ E.pop.pop hq0 hq1 (h9.loc e11) ?_ (by simp; omega)
    rw [List.append_assoc]
    exact hm.done op (10, 0) hop (opW.bare 10 (by decide)) hs
  refine c_pickE E hb (by omega) (by omega) (by omega) (fun x w2 hx0 hx1 E T => ?_)
  replace hv := hv.tr T (by decide)
  repeat (((refine eql_of ?_)))
  refine condP_of (fun hk => ?_) (fun hk => ?_)
  · (refine fad_of ?_)
    refine E.en.ld (.head _) rfl ?_
    refine bld_of (cs := #[.int .i64 11, .int .i64 0]) rfl ?_
    refine E.app1 (op := (11, 0)) (by kernel_rfl) hv (by omega) (by decide) (fun v9 w9 L9 E T9 h9 => ?_)
    (refine fad_of ?_)
    refine ER.st' [] E (by simp) h9.one (fun w10 E e10 => ?_)
    exact last _ v9 _ _ _ E (by omega) (by omega) (h9.loc e10) (opW.bare 11 (by decide))
  · replace E := E.drew
    replace hv := hv.drewX
    (refine fad_of ?_)
    refine E.en.ld (.head _) rfl ?_
    (refine fad_of ?_)
    refine E.en.ld (.head _) rfl ?_
    refine c_pickE E hb (by omega) (by omega) (by omega) (fun y w3 hy0 hy1 E T => ?_)
    replace hv := hv.tr T (by decide)
    refine ⟨E.en.ld (.head _) rfl rfl, ?_⟩
    refine bld_of (cs := #[.int .i64 2, .int .i64 y]) rfl ?_
    refine E.bsl rfl rfl rfl (fun b2 w4 E2 e2 => ?_)
    refine ⟨E2.en.ld (.tail _ (.head _)) rfl rfl, ?_⟩
    refine grow_lit [((2, y) : V)] (by kernel_rfl) (hv.keepX e2) (E2.en.blk (.head _)) rfl (by simp; omega) E2.en.mu.lim (fun v9 w9 L9 g9 _ h9 => ?_)
    replace E := E2.pop.grow g9 (by decide)
    (refine fad_of ?_)
    refine ER.st' [] E (by simp) h9.one (fun w10 E e10 => ?_)
    exact last _ v9 _ _ _ E (by omega) (by omega) (h9.loc e10) (opW.temp hy0 hy1)
theorem c_methLoop {r : Nat} {code : List Int} {pos a t : Int} {w0 w : World} {L : Lab} {b6 b7 : Nat} {v va : Value} {args : List Int} {R : VW} (E : ER r code pos w0 L w (mloc b6 b7 a t v)) (hb : Bytes code) (hp : 0 ≤ pos) (hp' : pos ≤ 70000) (ht : 1 ≤ t) (hv : Sl kPair (Own L) w [0] [] v)
    (hu : Sl kInt (Un (labR r) w0.heap.size) w0 [] args va) (ha1 : 1 ≤ args.length) (ha2 : args.length ≤ 1000) (haw : ∀ x ∈ args, 0 ≤ x ∧ x ≤ 2)
    (hR : ∀ v' w' L' pos' ops', ER r code pos' w0 L' w' [] → pos ≤ pos' → pos' ≤ pos + 60 → Sl kPair (Own L') w' [0] ops' v' → opsM args.length t ops' → ops'.length ≤ 14 → R (.agg #[.int .i64 a, .int .i64 t, v']) w') :
    loopT (fun s w Kn Kb Kr => Fspec_l71Method.l1 (s.headD undef) (s.tail.headD undef) (s.tail.tail.headD undef) (s.tail.tail.tail.headD undef) (s.tail.tail.tail.tail.headD undef) (s.tail.tail.tail.tail.tail.headD undef) w Kn Kb Kr) [.pointer (some ⟨r, 0, none⟩), va, .pointer (some ⟨b6, 0, none⟩), .pointer (some ⟨b7, 0, none⟩), .int .i64 (-1), .int .i64 0] w (fun s w => Fspec_l71Method.k2 (s.headD undef) (s.tail.headD undef) (s.tail.tail.headD undef) (s.tail.tail.tail.headD undef) (s.tail.tail.tail.tail.headD undef) (s.tail.tail.tail.tail.tail.headD undef) w R) (fun s w => Fspec_l71Method.r3 (s.headD undef) (s.tail.headD undef) (s.tail.tail.headD undef) (s.tail.tail.tail.headD undef) (s.tail.tail.tail.tail.headD undef) (s.tail.tail.tail.tail.tail.headD undef) w R) := by
  refine loop_of (fun m s wx => ∃ (i : Nat) (skip : Int) (ops : List V) (v : Value) (L : Lab) (q : Int), s = [.pointer (some ⟨r, 0, none⟩), va, .pointer (some ⟨b6, 0, none⟩), .pointer (some ⟨b7, 0, none⟩), .int .i64 skip, .int .i64 i] ∧ i + m = 4 ∧ pos ≤ q ∧ q ≤ pos + 12 * i ∧
    ER r code q w0 L wx (mloc b6 b7 a t v) ∧ Sl kPair (Own L) wx [0] ops v ∧ MI args.length t skip ops ∧ ops.length ≤ 12) ?_ (m := 4)
    ⟨0, -1, [], v, L, pos, rfl, rfl, by omega, by omega, E, hv, ⟨.inl rfl, by simp⟩, by simp⟩
  clear E hv
  rintro m s wx Kn ⟨i, skip, ops, v, L, q, rfl, hi, hq0, hq1, E, hv, hM, hl⟩ hKn
  intro _
  simp only [List.headD_cons, List.tail_cons]
  unfold mloc at E
  repeat (((refine lss_of ?_)))
  refine condLt_of (fun hc => ?_) (fun hc => ?_)
  · (refine fad_of ?_)
    refine E.en.ld (.head _) rfl ?_
    have hu' := E.en.un hu (Nat.le_refl _)
    have hsz := E.en.size
    refine c_part E.rd hb (by omega) (by omega) ht (hu'.unAny hsz) (hu'.frame (fun r' b m' hbb => ⟨fun o v hc => hc, labR_none (fun e => by have h1 := hbb.1; rw [e, E.lab] at h1; cases h1), Nat.lt_of_lt_of_le hbb.2 hsz⟩)) ha1 ha2 haw (fun v2 w2 M q2 more D hs how hmore => ?_)
    have h5 := D.lo
    have h6 := D.hi
    obtain ⟨L2, E2, T, h2⟩ := E.draw 1 D hs
    clear E
    have E := E2
    clear E2
    replace hv := hv.tr T (by decide)
    have j1 : ∀ (q' skip' : Int) (ops' : List V) (v : Value) (wz : World) (L : Lab), ER r code q' w0 L wz (mloc b6 b7 a t v) → pos ≤ q' → q' ≤ pos + 12 * (i + 1) → Sl kPair (Own L) wz [0] ops' v → Sl kPair (Own L) wz [1] more v2 → MI args.length t skip' ops' → ops'.length ≤ 12 → (skip' = skip ∨ ops'.length + more.length ≤ 12) →
        Fspec_l71Method.j1 (.pointer (some ⟨r, 0, none⟩)) va (.pointer (some ⟨b6, 0, none⟩)) (.pointer (some ⟨b7, 0, none⟩)) (.int .i64 skip') (.int .i64 i) v2 wz Kn (fun s w => Fspec_l71Method.k2 (s.headD undef) (s.tail.headD undef) (s.tail.tail.headD undef) (s.tail.tail.tail.headD undef) (s.tail.tail.tail.tail.headD undef) (s.tail.tail.tail.tail.tail.headD undef) w R) (fun s w => Fspec_l71Method.r3 (s.headD undef) (s.tail.headD undef) (s.tail.tail.headD undef) (s.tail.tail.tail.headD undef) (s.tail.tail.tail.tail.headD undef) (s.tail.tail.tail.tail.tail.headD undef) w R) := by
      intro q' skip' ops' v wz L E hq0' hq1' hv h2 hM hl' _ _
      unfold mloc at E
      (refine fad_of ?_)
      refine E.en.ld (.head _) rfl ?_
      refine hv.len_of ?_
      refine h2.len_of ?_
      (refine add_of (by (omega)) (by (omega)) ?_)
      (refine leq_of ?_)
      refine condP_of (fun hk => ?_) (fun hk => ?_)
      · (refine fad_of ?_)
        refine E.en.ld (.head _) rfl ?_
        refine grow_row (by kernel_rfl) hv h2 (by omega) E.en.mu.lim (fun v9 w9 L9 g9 _ h9 => ?_)
        replace E := E.grow g9 (by decide)
        (refine fad_of ?_)
        refine ER.st' [] E (by simp) h9.one (fun w10 E e10 => ?_)
        (refine add_of (by (omega)) (by (omega)) ?_)
        exact hKn (m - 1) _ _ (by omega) ⟨i + 1, skip', ops' ++ more, v9, L9, q', rfl, by omega, by omega, by omega, E, h9.loc e10, hM.app how, by rw [List.length_append]; omega⟩
      · (refine add_of (by (omega)) (by (omega)) ?_)
        exact hKn (m - 1) _ _ (by omega) ⟨i + 1, skip', ops', v, L, q', rfl, by omega, by omega, by omega, E, hv, hM, hl'⟩
    (refine lss_of ?_)
    refine condP_of (fun hk => ?_) (fun hk => ?_)
    · have hs1 : skip = -1 := by rcases hM.at' with h | ⟨h, _⟩ <;> omega
      subst hs1
      refine c_pickE E hb (by omega) (by omega) (by omega) (fun x w3 hx0 hx1 E T => ?_)
      replace hv := hv.tr T (by decide)
      replace h2 := h2.tr T (by decide)
      (refine eql_of ?_)
      refine condP_of (fun hk => ?_) (fun hk => ?_)
      · (refine fad_of ?_)
        refine E.en.ld (.head _) rfl ?_
        refine hv.len_of ?_
        refine h2.len_of ?_
        (refine add_of (by (omega)) (by (omega)) ?_)
        (refine leq_of ?_)
        refine condP_of (fun hk => ?_) (fun hk => ?_)
        · (refine fad_of ?_)
          refine E.en.ld (.head _) rfl ?_
          refine hv.len_of ?_
          (refine add_of (by (omega)) (by (omega)) ?_)
          replace E := E.drew
          replace hv := hv.drewX
          replace h2 := h2.drewX
          (refine fad_of ?_)
          refine E.en.ld (.head _) rfl ?_
          (refine fad_of ?_)
          refine E.en.ld (.head _) rfl ?_
          refine bld_of (cs := #[.int .i64 8, .int .i64 0]) rfl ?_
          refine c_pickE E hb (by omega) (by omega) (by omega) (fun y w3 hy0 hy1 E T => ?_)
          replace hv := hv.tr T (by decide)
          replace h2 := h2.tr T (by decide)
          refine ⟨E.en.ld (.head _) rfl rfl, ?_⟩
          refine bld_of (cs := #[.int .i64 2, .int .i64 y]) rfl ?_
          have E1 := E.en.mu.lim
          refine E.bsl rfl rfl rfl (fun b2 w4 E2 e2 => ?_)
          refine ⟨E2.en.ld (.tail _ (.head _)) rfl rfl, ?_⟩
          refine grow_lit [((2, y) : V), (8, 0)] (by kernel_rfl) (hv.keepX e2) (E2.en.blk (.head _)) rfl (by simp; omega) E2.en.mu.lim (fun v9 w9 L9 g9 _ h9 => ?_)
          clear E
          have E := E2.pop.grow g9 (by decide)
          replace h2 := h2.kp (kp_of e2 g9 E1) (by decide)
          (refine fad_of ?_)
          refine ER.st' [] E (by simp) h9.one (fun w10 E e10 => ?_)
          exact j1 _ _ _ _ _ _ E (by omega) (by omega) (h9.loc e10) (h2.loc e10) (hM.zero (opW.temp hy0 hy1)) (by simp; omega) (.inr (by simp; omega))
        · exact j1 _ _ _ _ _ _ E (by omega) (by omega) hv h2 hM hl (.inl rfl)
      · exact j1 _ _ _ _ _ _ E (by omega) (by omega) hv h2 hM hl (.inl rfl)
    · exact j1 _ _ _ _ _ _ E (by omega) (by omega) hv h2 hM hl (.inl rfl)
  · intro _
    have e4 : i = 4 := by omega
    subst e4
    (refine geq_of ?_)
    have fin : ∀ (v' : Value) (w' : World) (L' : Lab) (pos' : Int) (ops' : List V), ER r code pos' w0 L' w' [] → q ≤ pos' → pos' ≤ q + 2 → Sl kPair (Own L') w' [0] ops' v' → opsM args.length t ops' → ops'.length ≤ 14 → R (.agg #[.int .i64 a, .int .i64 t, v']) w' :=
      fun v' w' L' pos' ops' E' h1 h2 h3 h4 h5 => hR v' w' L' pos' ops' E' (by omega) (by omega) h3 h4 h5
    refine condP_of (fun hk => ?_) (fun hk => ?_)
    · obtain ⟨k0, k1, aa, k2⟩ := hM.at'.resolve_left (by omega)
      (refine fad_of ?_)
      refine E.en.ld (.head _) rfl ?_
      (refine fad_of ?_)
      refine E.en.ld (.head _) rfl ?_
      refine hv.len_of ?_
      refine hv.ixo_of rfl k0 k1 (fun x b o es mm hx hat ho hK hc => ?_)
      rw [hx] at k2
      obtain rfl := Option.some.inj k2
      have hes : es = [.int .i64 8, .int .i64 aa] := hK
      subst hes
      (refine fad_of ?_)
      obtain ⟨hlab, w', a1, a2, a3, a4⟩ := hv.puts (vs := [.int .i64 ops.length]) (off := 1) hat (by omega) (by simp [kPair, Kd.flat]) (by simp [Value.oneCell'])
      refine st_of_stN a1 ?_
      have h9 := a4 (8, (ops.length : Int)) (fun es k1 k2 => by
        have hx' : ops[skip.toNat]'(by omega) = (8, aa) := by
          rw [List.getElem?_eq_getElem (by omega)] at hx; exact Option.some.inj hx
        have : es = [.int .i64 8, .int .i64 aa] := by rw [hx'] at k1; exact k1
        subst this
        rfl)
      replace E := E.wr hlab (by decide) a2
      refine c_methEnd (skip := skip) E hb (by omega) (by omega) ht h9 (by simpa using hl) ⟨.inr ⟨k0, by simpa using k1, _, by rw [List.getElem?_set, if_pos rfl, if_pos (by omega)]⟩, fun j op hj hne => ?_⟩ (.inr ⟨_, by rw [List.getElem?_set, if_pos rfl, if_pos (by omega)], by omega, by simp⟩) fin
      rw [List.getElem?_set, if_neg (by omega)] at hj
      exact hM.ok j op hj hne
    · have hs1 : skip = -1 := by rcases hM.at' with h | ⟨h, _⟩ <;> omega
      exact c_methEnd E hb (by omega) (by omega) ht hv hl hM (.inl hs1) fin
structure MethW (n : Int) (m : Meth) : Prop where
  a0 : 0 ≤ m.args
  a2 : m.args ≤ 2
  t1 : m.args ≤ m.temps
  t2 : m.temps ≤ 4
  ops : m.ops.length ≤ 14
  ok : opsM n m.temps m.ops
theorem MethW.methOk {p : Pg} {m : Meth} (h : MethW p.length m) : methOk p m = true := by
  unfold Go.PT.methOk
  rw [inB_t h.a0 h.a2, inB_t h.t1 h.t2, h.ok p m rfl rfl rfl]
  have := h.ops
  simp; omega
theorem c_method {r : Nat} {code : List Int} {pos k : Int} {args : List Int} {va : Value} {w : World} {R : VW} (hrd : Rd w r code pos) (hb : Bytes code) (hp : 0 ≤ pos) (hp' : pos ≤ 60000)
    (hu : Sl kInt (Un (labR r) w.heap.size) w [] args va) (hk0 : 0 ≤ k) (hk1 : k < args.length) (ha2 : args.length ≤ 1000) (haw : ∀ x ∈ args, 0 ≤ x ∧ x ≤ 2)
    (hR : ∀ v w' M pos' m, Dn r code pos 70 w w' M pos' → Sl kPair (Own M) w' [] m.ops v → m.args = intAt args k → MethW args.length m → R (.agg #[.int .i64 m.args, .int .i64 m.temps, v]) w') :
    clT PR 202 [.pointer (some ⟨r, 0, none⟩), va, .int .i64 k] w R := by
  refine Fspec_l71Method.cl ?_
  unfold Fspec_l71Method
  have E := ER.init hrd
  refine E.al (fun b6 w1 E e1 => ?_)
  replace E := E.drew
  have hmem : intAt args k ∈ args := by
    unfold intAt
    rw [List.getD_eq_getElem?_getD, List.getElem?_eq_getElem (by omega : k.toNat < args.length)]
    exact List.getElem_mem _
  obtain ⟨a0, a2⟩ := haw _ hmem
  have hlen0 : 1 ≤ args.length := by omega
  have hix : ∀ {wz : World} {L : Lab} {q : Int} {l : List (Nat × List Value)} {kk : Value → Prop}, ER r code q w L wz l → (∀ b o, b ≠ r → wz.cell? ⟨b, o, none⟩ = some (.int .i64 (intAt args k)) → kk (.pointer (some ⟨b, o, none⟩))) → ixaT 1 va (.int .i64 k) kk := by
    intro wz L q l kk E hk
    refine (E.en.un hu (Nat.le_refl _)).ixo_of rfl hk0 hk1 (fun x b o es m hx hat ho hK hc => ?_)
    have hes : es = [.int .i64 x] := hK
    subst hes
    have e : intAt args k = x := intAt_of hx
    refine hk b o (fun e => by have h1 := ho.1; rw [e, E.lab] at h1; cases h1) ?_
    rw [e]; simpa using hc.at 0 rfl
  refine hix E (fun b o hne hc => ?_)
  refine ld_of hc ?_
  refine hix E (fun b' o' hne' hc' => ?_)
  refine ld_of hc' ?_
  have s0 : SlE [none] #[.int .i64 0, .int .i64 0, .slice none 0 0] [(b6, [.int .i64 0, .int .i64 0, .slice none 0 0])] [(b6, [.int .i64 0, .int .i64 0, .slice none 0 0])] := .inl ⟨rfl, rfl⟩
  have fin : ∀ (s : List (Option Nat)) (l : List (Nat × List Value)) (wz : World) (q x : Int) (bb ty : Nat), SlE s #[.int .i64 0, .int .i64 0, .slice none 0 0] [(b6, [.int .i64 0, .int .i64 0, .slice none 0 0])] l → ER r code q w (labR r) wz l → pos ≤ q → q ≤ pos + 1 → 0 ≤ x → x ≤ 2 →
      ndT s 0 fun b13 => stsT 3 (.pointer (some ⟨b13, 0, none⟩)) (.agg #[.int .i64 (intAt args k), .int .i64 (max (intAt args k) (1 + x)), .slice (some ⟨bb, 0, none⟩) 0 0]) wz fun w14 =>
      arT [(ty, #[.int .i64 0, .int .i64 0, .slice none 0 0])] w14 s fun w15 s16 => ndT s16 0 fun b17 =>
      loopT (fun s w Kn Kb Kr => Fspec_l71Method.l1 (s.headD undef) (s.tail.headD undef) (s.tail.tail.headD undef) (s.tail.tail.tail.headD undef) (s.tail.tail.tail.tail.headD undef) (s.tail.tail.tail.tail.tail.headD undef) w Kn Kb Kr) [.pointer (some ⟨r, 0, none⟩), va, .pointer (some ⟨b6, 0, none⟩), .pointer (some ⟨b17, 0, none⟩), .int .i64 (-1), .int .i64 0] w15 (fun s w => Fspec_l71Method.k2 (s.headD undef) (s.tail.headD undef) (s.tail.tail.headD undef) (s.tail.tail.tail.headD undef) (s.tail.tail.tail.tail.headD undef) (s.tail.tail.tail.tail.tail.headD undef) w R) (fun s w => Fspec_l71Method.r3 (s.headD undef) (s.tail.headD undef) (s.tail.tail.headD undef) (s.tail.tail.tail.headD undef) (s.tail.tail.tail.tail.headD undef) (s.tail.tail.tail.tail.tail.headD undef) w R) := by
    intro s l wz q x bb ty hs E hq0 hq1 hx0 hx1
    refine hs.nd (fun b13 h1 h2 => ?_)
    subst h1 h2
    refine ER.sts' (vs := [.int .i64 (intAt args k), .int .i64 (max (intAt args k) (1 + x)), .slice (some ⟨bb, 0, none⟩) 0 0]) [] rfl E rfl rfl (by simp [Value.oneCell']) (fun w3 E3 e3 => ?_)
    refine ar_some ?_
    refine nd_some ?_
    refine c_methLoop (a := intAt args k) (t := max (intAt args k) (1 + x)) E3 hb (by omega) (by omega) (by omega) Sl.none0 hu hlen0 ha2 haw (fun v' w' L' pos' ops' E' h1 h2 h3 h4 h5 => ?_)
    exact hR v' w' _ pos' ⟨intAt args k, max (intAt args k) (1 + x), ops'⟩ (E'.done 0 (by omega) (by omega) (by decide)) h3.sub rfl ⟨a0, a2, by simp only; omega, by simp only; omega, h5, h4⟩
  refine E.ar s0 (fun w2 s3 l3 E e2 hs3 => ?_)
  refine ⟨?_, ?_⟩
  · replace hc := Ext.cell e2 hc
    replace hc' := Ext.cell e2 hc'
    refine c_pickE E hb (by omega) (by omega) (by omega) (fun x w4 hx0 hx1 E T => ?_)
    replace hc := T.fr.cell hne hc
    replace hc' := T.fr.cell hne' hc'
    refine ⟨ld_of hc' rfl, ld_of hc rfl, ?_⟩
    (refine add_of (by (omega)) (by (omega)) ?_)
    refine E.ar hs3 (fun w5 s6 l6 E e5 hs6 => ?_)
    replace hc := Ext.cell e5 hc
    replace hc' := Ext.cell e5 hc'
    refine ⟨?_, ?_⟩
    · refine max_of ?_
      refine ⟨ld_of hc rfl, ?_⟩
      refine E.ar hs6 (fun w8 s9 l9 E e8 hs9 => ?_)
      replace hc := Ext.cell e8 hc
      replace hc' := Ext.cell e8 hc'
      refine E.bsl rfl rfl rfl (fun bb w10 E e10 => ?_)
      replace E := E.pop
      replace hc := Ext.cell e10 hc
      replace hc' := Ext.cell e10 hc'
      refine ⟨ld_of hc' rfl, ld_of hc rfl, ?_⟩
      refine bld_of (cs := #[.int .i64 (intAt args k), .int .i64 (max (intAt args k) (1 + x)), .slice (some ⟨bb, 0, none⟩) 0 0]) rfl ?_
      refine E.ar hs9 (fun w11 s12 l12 E e11 hs12 => ?_)
      exact fin _ _ _ _ _ _ _ hs12 E (by omega) (by omega) hx0 (by omega)
    · refine E.bsl rfl rfl rfl (fun bb w10 E e10 => ?_)
      replace E := E.pop
      replace hc := Ext.cell e10 hc
      replace hc' := Ext.cell e10 hc'
      refine ⟨ld_of hc' rfl, ld_of hc rfl, ?_⟩
      refine E.ar hs6 (fun w8 s9 l9 E e8 hs9 => ?_)
      replace hc := Ext.cell e8 hc
      refine max_of ?_
      refine ⟨ld_of hc rfl, ?_⟩
      refine bld_of (cs := #[.int .i64 (intAt args k), .int .i64 (max (intAt args k) (1 + x)), .slice (some ⟨bb, 0, none⟩) 0 0]) rfl ?_
      refine E.ar hs9 (fun w11 s12 l12 E e11 hs12 => ?_)
      exact fin _ _ _ _ _ _ _ hs12 E (by omega) (by omega) hx0 (by omega)
  · replace hc := Ext.cell e2 hc
    replace hc' := Ext.cell e2 hc'
    refine E.bsl rfl rfl rfl (fun bb w10 E e10 => ?_)
    replace E := E.pop
    replace hc := Ext.cell e10 hc
    replace hc' := Ext.cell e10 hc'
    refine ⟨ld_of hc' rfl, ld_of hc rfl, ?_⟩
    refine E.ar hs3 (fun w5 s6 l6 E e5 hs6 => ?_)
    replace hc := Ext.cell e5 hc
    replace hc' := Ext.cell e5 hc'
    refine c_pickE E hb (by omega) (by omega) (by omega) (fun x w4 hx0 hx1 E T => ?_)
    replace hc := T.fr.cell hne hc
    replace hc' := T.fr.cell hne' hc'
    refine ⟨ld_of hc' rfl, ld_of hc rfl, ?_⟩
    (refine add_of (by (omega)) (by (omega)) ?_)
    refine E.ar hs6 (fun w8 s9 l9 E e8 hs9 => ?_)
    replace hc := Ext.cell e8 hc
    refine max_of ?_
    refine ⟨ld_of hc rfl, ?_⟩
    refine bld_of (cs := #[.int .i64 (intAt args k), .int .i64 (max (intAt args k) (1 + x)), .slice (some ⟨bb, 0, none⟩) 0 0]) rfl ?_
    refine E.ar hs9 (fun w11 s12 l12 E e11 hs12 => ?_)
    exact fin _ _ _ _ _ _ _ hs12 E (by omega) (by omega) hx0 (by omega)
end Go.PT
namespace Go.PT
attribute [local irreducible] ldT ldsT stT stsT allocT boxT bldT bslT nilT fadT ixaT fldT extT lenT pickT binT notT cviT opT opU condT clT clvT ivT loopT arT ndT World.cell? World.frozen? World.alloc World.drew World.setCell Blk Cells Sl
theorem c_lmVals {l : List V} {u v : Value} {w : World} {R : VW} (hu : Sl kPair Any w [] l u) (hv : Sl kPair Any w [] l v) (hl : l.length ≤ 1073741824) (hR : ∀ w', Ext w w' → R (.bool true) w') : clT PR 52 [u, v] w R := by
  refine Flaws_lmVals.cl ?_
  unfold Flaws_lmVals
  refine hu.len_of ?_
  refine hv.len_of ?_
  (refine neq_of ?_)
  refine condP_of (fun hne => absurd rfl hne) (fun _ => ?_)
  refine loop_of (fun m s wx => ∃ (i : Nat), s = [u, v, .bool false, .int .i64 i] ∧ i + m = l.length ∧ Ext w wx) ?_ (m := l.length) ⟨0, rfl, by omega, Fr.refl _ _⟩
  rintro m s wx Kn ⟨i, rfl, hi, e⟩ hKn
  intro _
  simp only [List.headD_cons, List.tail_cons]
  refine (hu.ext e).len_of ?_
  (refine lss_of ?_)
  refine condLt_of (fun hc => ?_) (fun hc => ?_)
  · have e' := e.drew
    refine pair_ix (i := (i : Int)) (hu.ext e) (by omega) (by omega) (fun b o hcell => ?_)
    refine lds_of hcell.drew rfl ?_
    refine pair_ix (i := (i : Int)) (hv.ext e) (by omega) (by omega) (fun b' o' hcell' => ?_)
    refine lds_of hcell'.drew rfl ?_
    refine neqP_of (u := pairAt l i) (v := pairAt l i) (by kernel_rfl) ?_
    refine condP_of (fun hne => absurd rfl hne) (fun _ => ?_)
    (refine add_of (by (omega)) (by (omega)) ?_)
    exact hKn (m - 1) _ _ (by omega) ⟨i + 1, rfl, by omega, e'⟩
  · intro _
    exact hR _ e
theorem c_lmCall {c : Cl} {ut us vt vs : Value} {w : World} {R : VW} (h1 : Sl kPair Any w [] c.temps ut) (h2 : Sl kPair Any w [] c.stack us) (k1 : Sl kPair Any w [] c.temps vt) (k2 : Sl kPair Any w [] c.stack vs) (n1 : c.temps.length ≤ 1073741824) (n2 : c.stack.length ≤ 1073741824)
    (hR : ∀ w', Ext w w' → R (.bool true) w') : clT PR 108 [.agg (cellsC c ut us).toArray, .agg (cellsC c vt vs).toArray] w R := by
  refine Flaws_lmCall.cl ?_
  unfold Flaws_lmCall
  have E := En.start w
  refine E.box (fun b1 w1 E _ => ?_)
  refine E.box (fun b2 w2 E _ => ?_)
  repeat (first | (first | refine fad_of ?_ | refine eql_of ?_) | ((refine E.ld (by first | exact .head _ | exact .tail _ (.head _)) (by exact rfl) ?_)))
  refine condP_of (fun _ => ?_) (fun hne => absurd rfl hne)
  repeat (first | (first | refine fad_of ?_ | refine eql_of ?_) | ((refine E.ld (by first | exact .head _ | exact .tail _ (.head _)) (by exact rfl) ?_)))
  refine condP_of (fun _ => ?_) (fun hne => absurd rfl hne)
  repeat (first | (first | refine fad_of ?_ | refine eql_of ?_) | ((refine E.ld (by first | exact .head _ | exact .tail _ (.head _)) (by exact rfl) ?_)))
  refine condP_of (fun _ => ?_) (fun hne => absurd rfl hne)
  repeat (first | ((refine fad_of ?_)) | ((refine E.ld (by first | exact .head _ | exact .tail _ (.head _)) (by exact rfl) ?_)))
  refine eqlB_of (by kernel_rfl) ?_
  refine cond_of (fun _ => ?_) (fun hf => by simp at hf)
  repeat (first | ((refine fad_of ?_)) | ((refine E.ld (by first | exact .head _ | exact .tail _ (.head _)) (by exact rfl) ?_)))
  refine c_lmVals (E.any h1) (E.any k1) n1 (fun w3 e3 => ?_)
  replace E := E.ext e3
  repeat (first | (first | refine fad_of ?_ | refine condT_true ?_) | ((refine E.ld (by first | exact .head _ | exact .tail _ (.head _)) (by exact rfl) ?_)))
  repeat ((fail))
  refine c_lmVals (E.any h2) (E.any k2) n2 (fun w4 e4 => ?_)
  exact hR _ (E.toExt.trans e4)
theorem c_lmCalls {cs : List Cl} {u v : Value} {w : World} {R : VW} (hu : Sl kCall Any w [] cs u) (hv : Sl kCall Any w [] cs v) (hl : cs.length ≤ 1073741824) (hn : ∀ c ∈ cs, c.temps.length ≤ 1073741824 ∧ c.stack.length ≤ 1073741824)
    (hR : ∀ w', Ext w w' → R (.bool true) w') : clT PR 38 [u, v] w R := by
  refine Flaws_lmCalls.cl ?_
  unfold Flaws_lmCalls
  refine hu.len_of ?_
  refine hv.len_of ?_
  (refine neq_of ?_)
  refine condP_of (fun hne => absurd rfl hne) (fun _ => ?_)
  refine loop_of (fun m s wx => ∃ (i : Nat), s = [u, v, .bool false, .int .i64 i] ∧ i + m = cs.length ∧ Ext w wx) ?_ (m := cs.length) ⟨0, rfl, by omega, Fr.refl _ _⟩
  rintro m s wx Kn ⟨i, rfl, hi, e⟩ hKn
  intro _
  simp only [List.headD_cons, List.tail_cons]
  refine (hu.ext e).len_of ?_
  (refine lss_of ?_)
  refine condLt_of (fun hc => ?_) (fun hc => ?_)
  · have e' := e.drew
    have hmem := hn _ (callAt_mem (cs := cs) (i := (i : Int)) (by omega) (by omega))
    refine call_ix (i := (i : Int)) (hu.ext e) (by omega) (by omega) (fun b o ut us hcell ht hs => ?_)
    refine lds_of (cs := cellsC (callAt cs i) ut us) hcell.drew rfl ?_
    refine call_ix (i := (i : Int)) (hv.ext e) (by omega) (by omega) (fun b' o' vt vs hcell' ht' hs' => ?_)
    refine lds_of (cs := cellsC (callAt cs i) vt vs) hcell'.drew rfl ?_
    refine c_lmCall ht.drew hs.drew ht'.drew hs'.drew hmem.1 hmem.2 (fun w3 e3 => ?_)
    (refine not_of ?_)
    (refine condT_false ?_)
    (refine add_of (by (omega)) (by (omega)) ?_)
    exact hKn (m - 1) _ _ (by omega) ⟨i + 1, rfl, by omega, e'.trans e3⟩
  · intro _
    exact hR _ e
theorem c_lmHeap {h : Hp} {uc us vc vs : Value} {w : World} {R : VW} (hu : HeapV w h uc us) (hv : HeapV w h vc vs) (hR : ∀ w', Ext w w' → R (.bool true) w') : clT PR 44 [.agg (heapCells h uc us).toArray, .agg (heapCells h vc vs).toArray] w R := by
  refine Flaws_lmHeap.cl ?_
  unfold Flaws_lmHeap
  have E := En.start w
  refine E.box (fun b1 w1 E _ => ?_)
  refine E.box (fun b2 w2 E _ => ?_)
  repeat (first | ((refine fad_of ?_)) | ((refine E.ld (by first | exact .head _ | exact .tail _ (.head _)) (by exact rfl) ?_)))
  refine c_lmCalls (E.any hu.calls) (E.any hv.calls) hu.n hu.nt (fun w3 e3 => ?_)
  replace E := E.ext e3
  (refine condT_true ?_)
  repeat (first | (first | refine fad_of ?_ | refine eql_of ?_) | ((refine E.ld (by first | exact .head _ | exact .tail _ (.head _)) (by exact rfl) ?_)))
  refine condP_of (fun _ => ?_) (fun hne => absurd rfl hne)
  repeat (first | (first | refine fad_of ?_ | refine eql_of ?_) | ((refine E.ld (by first | exact .head _ | exact .tail _ (.head _)) (by exact rfl) ?_)))
  refine condP_of (fun _ => ?_) (fun hne => absurd rfl hne)
  repeat (first | (first | refine fad_of ?_ | refine eql_of ?_) | ((refine E.ld (by first | exact .head _ | exact .tail _ (.head _)) (by exact rfl) ?_)))
  refine condP_of (fun _ => ?_) (fun hne => absurd rfl hne)
  repeat (first | ((refine fad_of ?_)) | ((refine E.ld (by first | exact .head _ | exact .tail _ (.head _)) (by exact rfl) ?_)))
  refine c_lmVals (E.any hu.said) (E.any hv.said) hu.ns (fun w4 e4 => ?_)
  exact hR _ (E.toExt.trans e4)
end Go.PT
namespace Go.PT
variable {α : Type}
theorem own_lab1 {w : World} {b m : Nat} {p : List Nat} {cs : List Value} (h : Blk w b cs) (hm : m ≤ cs.length) : Own (lab1 b p) w p b m := by
  obtain ⟨t, h⟩ := h
  exact ⟨by unfold lab1; simp, _, t, h, by simpa using hm⟩
theorem Sl.ownUn {kd : Kd α} {r i : Nat} {p q : List Nat} {L : Lab} {w : World} {xs : List α} {v : Value} (h : Sl kd (Own L) w (i :: q) xs v) (hi : i ≠ 9) (hr : L r = some [9]) : Sl kd (Un (labR r) w.heap.size) w p xs v :=
  h.frame (fun s b m hb => ⟨fun o v hc => hc, labR_none (fun e => by have h1 := hb.1; rw [e, hr] at h1; simp at h1; exact hi h1.1.symm), own_lt hb⟩)
attribute [local irreducible] ldT ldsT stT stsT allocT boxT bldT bslT nilT fadT ixaT fldT extT lenT pickT binT notT cviT opT opU condT clT clvT ivT loopT arT ndT World.cell? World.frozen? World.alloc World.drew World.setCell Blk Cells Sl
theorem c_prog {r : Nat} {code : List Int} {pos : Int} {w : World} {R : VW} (hrd : Rd w r code pos) (hb : Bytes code) (hp : 0 ≤ pos) (hp' : pos ≤ 50000)
    (hR : ∀ v w' M pos' p, Dn r code pos 400 w w' M pos' → Sl kMeth (Own M) w' [] p v → progOk p = true → p.length ≤ 4 → R (.agg #[v]) w') : clT PR 140 [.pointer (some ⟨r, 0, none⟩)] w R := by
  refine Fspec_l71Prog.cl ?_
  unfold Fspec_l71Prog
  have E := ER.init hrd
  refine E.al (fun b2 w1 E e1 => ?_)
  refine bsl_of' rfl rfl rfl (fun b7 w2 e2 hb7 (k7 : Blk w2 b7 [.int .i64 0]) => ?_)
  obtain ⟨L2, E2, T2, ha⟩ := E.made (kd := kInt) (xs := [0]) (v := .slice (some ⟨b7, 0, none⟩) 1 1) 1 e2 (lab1_born (p := []) hb7) (lab1_lim k7.lt) (sl_flat (rest := []) (by simpa using k7) rfl (Nat.le_refl _) (own_lab1 k7 (Nat.le_refl _)))
  clear E
  have E := E2
  clear E2
  refine c_pickE E hb (by omega) (by omega) (by omega) (fun x w3 hx0 hx1 E T => ?_)
  replace ha := ha.tr T (by decide)
  (refine add_of (by (omega)) (by (omega)) ?_)
  obtain ⟨n, rfl⟩ := Int.eq_ofNat_of_zero_le hx0
  have hn : (1 : Int) + (n : Int) = ((n + 1 : Nat) : Int) := by omega
  rw [hn]
  refine loop_of (fun m s wx => ∃ (args : List Int) (va : Value) (L : Lab) (q : Int), s = [.pointer (some ⟨r, 0, none⟩), .pointer (some ⟨b2, 0, none⟩), va, .int .i64 m] ∧ args.length + m ≤ 4 ∧ args[0]? = some 0 ∧ (∀ x ∈ args, 0 ≤ x ∧ x ≤ 2) ∧ pos ≤ q ∧ q + 4 * m ≤ pos + 20 ∧
    ER r code q w L wx [(b2, [.slice none 0 0])] ∧ Sl kInt (Own L) wx [1] args va) ?_ (m := n + 1)
    ⟨[0], _, L2, pos + 1, rfl, by simp; omega, rfl, by simp, by omega, by omega, E, ha⟩
  clear E ha
  rintro m s wx Kn ⟨args, va, L, q, rfl, hal, h0, haw, hq0, hq1, E, ha⟩ hKn
  intro _
  simp only [List.headD_cons, List.tail_cons]
  (refine gtr_of ?_)
  refine condP_of (fun hc => ?_) (fun hc => ?_)
  · refine c_pickE E hb (by omega) (by omega) (by omega) (fun x w3 hx0 hx1 E T => ?_)
    replace ha := ha.tr T (by decide)
    refine E.bsl rfl rfl rfl (fun b4 w4 E e4 => ?_)
    refine grow_lit [x] (by kernel_rfl) (ha.keepX e4) (E.en.blk (.head _)) rfl (by simp; omega) E.en.mu.lim (fun v9 w9 L9 g9 _ h9 => ?_)
    have E := E.pop.grow g9 (by decide)
    (refine sub_of (by (omega)) (by (omega)) ?_)
    refine hKn (m - 1) _ _ (by omega) ⟨args ++ [x], v9, L9, q + 1, by rw [show ((m - 1 : Nat) : Int) = (m : Int) - 1 by omega], by simp; omega, ?_, ?_, by omega, by omega, E, h9⟩
    · rw [List.getElem?_append_left]
      · exact h0
      · exact (List.getElem?_eq_some_iff.mp h0).1
    · intro y hy
      rcases List.mem_append.mp hy with hy | hy
      · exact haw y hy
      · rw [List.mem_singleton.mp hy]; omega
  · intro _
    have hm0 : m = 0 := by omega
    subst hm0
    have hal1 : 1 ≤ args.length := (List.getElem?_eq_some_iff.mp h0).1
    refine bld_of (cs := #[.slice none 0 0]) rfl ?_
    refine E.al (fun b5 w5 E e5 => ?_)
    replace ha := ha.keepX e5
    refine ER.sts' (vs := [.slice none 0 0]) [] rfl E rfl rfl (by simp [Value.oneCell']) (fun w6 E e6 => ?_)
    replace ha := ha.loc e6
    refine loop_of (fun m s wx => ∃ (i : Nat) (ms : List Meth) (v : Value) (L : Lab) (q : Int), s = [.pointer (some ⟨r, 0, none⟩), .pointer (some ⟨b2, 0, none⟩), va, .pointer (some ⟨b5, 0, none⟩), .int .i64 i] ∧ i + m = args.length ∧ ms.length = i ∧ (∀ x ∈ ms, MethW args.length x) ∧
      (∀ x, ms[0]? = some x → x.args = 0) ∧ pos ≤ q ∧ q ≤ pos + 20 + 70 * i ∧ ER r code q w L wx [(b5, [v]), (b2, [.slice none 0 0])] ∧ Sl kInt (Own L) wx [1] args va ∧ Sl kMeth (Own L) wx [0] ms v) ?_ (m := args.length)
      ⟨0, [], .slice none 0 0, L, q, rfl, by omega, rfl, by simp, by simp, by omega, by omega, E, ha, Sl.none0⟩
    clear E ha
    rintro m s wx Kn ⟨i, ms, v, L, q, rfl, hi, hml, hmw, hm0, hq0, hq1, E, ha, hv⟩ hKn
    intro _
    simp only [List.headD_cons, List.tail_cons]
    refine ha.len_of ?_
    (refine lss_of ?_)
    refine condLt_of (fun hc => ?_) (fun hc => ?_)
    · replace E := E.drew
      replace ha := ha.drewX
      replace hv := hv.drewX
      (refine fad_of ?_)
      refine E.en.ld (.head _) rfl ?_
      refine c_method E.rd hb (by omega) (by omega) (ha.ownUn (by decide) E.lab) (by omega) (by omega) (by omega) haw (fun vo w9 M q9 mt D hs hma hmt => ?_)
      have h5 := D.lo
      have h6 := D.hi
      obtain ⟨E9, T9⟩ := E.take [0, i, 2] D
      have ho := hs.inR (q := [0, i, 2]) (E.apart D)
      clear E
      have E := E9
      clear E9
      replace ha := ha.tr T9 (by decide)
      replace hv := hv.tr T9 (by decide)
      refine ⟨E.en.ld (.head _) rfl rfl, ?_⟩
      have hlim := E.en.mu.lim
      refine E.bsl rfl rfl rfl (fun b10 w10 E e10 => ?_)
      refine ⟨E.en.ld (.tail _ (.head _)) rfl rfl, ?_⟩
      refine grow_one (kd := kMeth) mt (by kernel_rfl) (hv.keepX e10) (E.en.blk (.head _)) ⟨vo, rfl, by rw [hml]; exact ho.keepX e10⟩ rfl (by omega) E.en.mu.lim (fun v9 w11 L11 g11 _ h11 => ?_)
      have E := E.pop.grow g11 (by decide)
      replace ha := ha.kp (kp_of e10 g11 hlim) (by decide)
      (refine fad_of ?_)
      refine ER.st' [] E (by simp) h11.one (fun w12 E e12 => ?_)
      (refine add_of (by (omega)) (by (omega)) ?_)
      refine hKn (m - 1) _ _ (by omega) ⟨i + 1, ms ++ [mt], v9, L11, q9, rfl, by omega, by simp [hml], ?_, ?_, by omega, by omega, E, ha.loc e12, h11.loc e12⟩
      · intro y hy
        rcases List.mem_append.mp hy with hy | hy
        · exact hmw y hy
        · rw [List.mem_singleton.mp hy]; exact hmt
      · intro y hy
        cases ms with
        | nil =>
          have : mt = y := by simpa using hy
          subst this
          have hi0 : i = 0 := by simpa using hml.symm
          subst hi0
          rw [hma]
          exact intAt_of h0
        | cons z zs => exact hm0 y (by simpa using hy)
    · intro _
      have hm0' : m = 0 := by omega
      refine E.en.lds (.head _) rfl ?_
      refine ER.sts' (vs := [v]) [_] rfl E rfl rfl (by intro u hu; simp at hu; subst hu; exact hv.one) (fun w12 E e12 => ?_)
      replace hv := hv.loc e12
      refine E.en.lds (.tail _ (.head _)) rfl ?_
      have hlen : ms.length = args.length := by omega
      refine hR _ _ _ q ms (E.done 0 (by omega) (by omega) (by decide)) hv.sub ?_ (by omega)
      unfold progOk
      rw [inB_t (by omega) (by omega), Bool.true_and, Bool.and_eq_true]
      constructor
      · rw [decide_eq_true_eq]
        have hg : ms[0]? = some ms[0] := List.getElem?_eq_getElem (by omega)
        have : methAt ms 0 = ms[0] := methAt_of hg
        rw [this]
        exact hm0 _ hg
      · rw [List.all_eq_true]
        intro y hy
        have := hmw y hy
        rw [← hlen] at this
        exact this.methOk
end Go.PT
namespace Go.PT
def Keeps (h h' : Hp) : Prop := h.calls.length ≤ h'.calls.length ∧ ∀ i : Int, 0 ≤ i → i < h.calls.length → (callAt h'.calls i).method = (callAt h.calls i).method ∧ ((callAt h.calls i).dead = true → (callAt h'.calls i).dead = true ∧ (callAt h'.calls i).pc = (callAt h.calls i).pc)
theorem Keeps.refl (h : Hp) : Keeps h h := ⟨Nat.le_refl _, fun _ _ _ => ⟨rfl, fun d => ⟨d, rfl⟩⟩⟩
theorem Keeps.trans {a b c : Hp} (h : Keeps a b) (k : Keeps b c) : Keeps a c := by
  refine ⟨Nat.le_trans h.1 k.1, fun i i0 i1 => ?_⟩
  have h1 := h.2 i i0 i1
  have k1 := k.2 i i0 (by have := h.1; omega)
  exact ⟨k1.1.trans h1.1, fun d => ⟨(k1.2 (h1.2 d).1).1, ((k1.2 (h1.2 d).1).2).trans (h1.2 d).2⟩⟩
theorem keeps_put {h : Hp} {i : Int} {c : Cl} (hm : c.method = (callAt h.calls i).method) (hd : (callAt h.calls i).dead = true → c.dead = true ∧ c.pc = (callAt h.calls i).pc) : Keeps h (putC h i c) := by
  refine ⟨by rw [putC_len]; exact Nat.le_refl _, fun j j0 j1 => ?_⟩
  have e : callAt (putC h i c).calls j = if j.toNat = i.toNat then c else callAt h.calls j := by
    unfold callAt putC
    rw [List.getD_eq_getElem?_getD, List.getD_eq_getElem?_getD, List.getElem?_set]
    by_cases he : j.toNat = i.toNat
    · rw [if_pos he.symm, if_pos he, if_pos (by omega)]; rfl
    · rw [if_neg (fun e => he e.symm), if_neg he]
  rw [e]
  split
  · rename_i he
    have : callAt h.calls j = callAt h.calls i := by unfold callAt; rw [he]
    rw [this]; exact ⟨hm, hd⟩
  · exact ⟨rfl, fun d => ⟨d, rfl⟩⟩
theorem keeps_calls {h h' : Hp} (e : h'.calls = h.calls) : Keeps h h' := by unfold Keeps; rw [e]; exact (Keeps.refl h)
theorem Keeps.calls {a b c : Hp} (k : Keeps a b) (e : c.calls = b.calls) : Keeps a c := k.trans (keeps_calls e)
theorem keeps_push (h : Hp) (v : V) : Keeps h (pushH h v) := keeps_put rfl (fun d => ⟨d, rfl⟩)
theorem keeps_setT (h : Hp) (i a : Int) (v : V) : Keeps h (setT h i a v) := keeps_put rfl (fun d => ⟨d, rfl⟩)
theorem keeps_setPc (h : Hp) (a : Int) (hd : (nowC h).dead = false) : Keeps h (setPc h a) := keeps_put rfl (fun d => by
  have : (nowC h).dead = true := d
  rw [hd] at this; cases this)
theorem keeps_die (h : Hp) (i : Int) : Keeps h (dieH h i) := keeps_put rfl (fun d => ⟨rfl, rfl⟩)
theorem keeps_leave (h : Hp) : Keeps h (leaveH h) := (keeps_die h h.now).calls rfl
theorem keeps_back (to : Int) : ∀ (n : Nat) (h : Hp), Keeps h (backL n h to)
  | 0, h => Keeps.refl h
  | n + 1, h => by
    unfold backL
    split
    · exact Keeps.refl h
    · exact (keeps_leave h).trans (keeps_back to n _)
theorem keeps_call (p : Pg) (h : Hp) (k : Int) (args : List V) : Keeps h (callH p h k args) := by
  unfold callH
  split
  · exact keeps_calls rfl
  · refine ⟨by simp, fun i i0 i1 => ?_⟩
    show (callAt (h.calls ++ _) i).method = _ ∧ (_ → (callAt (h.calls ++ _) i).dead = true ∧ (callAt (h.calls ++ _) i).pc = _)
    rw [callAt_app i0, if_pos i1]
    exact ⟨rfl, fun d => ⟨d, rfl⟩⟩
theorem keeps_do (p : Pg) (h : Hp) (op : Int × Int) (args : List V) (hd : (nowC h).dead = false) : Keeps h (doH p h op args) := by
  unfold doH
  split
  · exact keeps_push _ _
  · repeat' split
    all_goals first
      | exact keeps_push _ _
      | exact keeps_setT _ _ _ _
      | exact keeps_setPc _ _ hd
      | exact keeps_call _ _ _ _
      | exact Keeps.refl _
      | exact keeps_calls rfl
      | skip
    · unfold retH
      split
      · exact (keeps_leave h).calls rfl
      · exact (keeps_leave h).trans (keeps_push _ _)
    · unfold pokeH
      split
      · exact keeps_setT _ _ _ _
      · exact Keeps.refl _
    · unfold backH
      split
      · exact keeps_calls rfl
      · exact (keeps_back _ _ h).trans (keeps_push _ _)
theorem keeps_step {p : Pg} {h : Hp} (h0 : 0 ≤ h.now) (h1 : h.now < h.calls.length) (hd : (nowC h).dead = false) : Keeps h (stepH p h) := by
  unfold stepH
  repeat' split
  all_goals first
    | exact keeps_calls rfl
    | skip
  have k : Keeps h (tookH p h) := keeps_put rfl (fun d => by
    have : (nowC h).dead = true := d
    rw [hd] at this; cases this)
  refine k.trans (keeps_do p _ _ _ ?_)
  unfold tookH
  rw [nowC_put h0 h1]
  exact hd
theorem keeps_run {p : Pg} : ∀ (n : Nat) {h : Hp}, HOK p h → Keeps h (runH p n h)
  | 0, h, _ => Keeps.refl h
  | n + 1, h, H => by
    unfold runH
    split
    · rename_i hc
      have h0 := H.now0 hc
      exact (keeps_step h0 H.now2 (H.alive h0)).trans (keeps_run n (step_ok H hc))
    · exact Keeps.refl h
end Go.PT
namespace Go.PT
variable {α : Type}
def Nr (r n : Nat) : Ok := fun w _ b _ => b ≠ r ∧ n ≤ b ∧ b < w.heap.size
def Lb (L : Lab) : Ok := fun w _ b _ => L b ≠ none ∧ L b ≠ some [9] ∧ b < w.heap.size
theorem free_lb (L : Lab) : Free (Lb L) := fun _ _ _ _ _ _ h => h
theorem Sl.lb {kd : Kd α} {L : Lab} {w : World} {i : Nat} {q p : List Nat} {xs : List α} {v : Value} (h : Sl kd (Own L) w (i :: q) xs v) (hi : i ≠ 9) : Sl kd (Lb L) w p xs v :=
  h.frame (fun s b m hb => ⟨fun o v hc => hc, by rw [hb.1]; simp, by rw [hb.1]; simp; intro e; exact absurd e hi, own_lt hb⟩)
theorem Sl.lbLoc {kd : Kd α} {L : Lab} {w w' : World} {p : List Nat} {xs : List α} {v : Value} {b : Nat} (h : Sl kd (Lb L) w p xs v) (e : Loc L w w' b) : Sl kd (Lb L) w' p xs v :=
  h.frame (fun s x m hb => ⟨fun o v hc => e.fr.cell (fun he => hb.1 (by rw [he]; exact e.un)) hc, hb.1, hb.2.1, Nat.lt_of_lt_of_le hb.2.2 e.fr.size⟩)
theorem Sl.lbDrew {kd : Kd α} {L : Lab} {w : World} {p : List Nat} {xs : List α} {v : Value} (h : Sl kd (Lb L) w p xs v) : Sl kd (Lb L) w.drew p xs v :=
  h.frame (fun s x m hb => ⟨fun o v hc => hc, hb⟩)
theorem Sl.nr {kd : Kd α} {L : Lab} {w : World} {p q : List Nat} {xs : List α} {v : Value} {r : Nat} {code : List Int} {pos : Int} {w0 : World} {l : List (Nat × List Value)} (h : Sl kd (Lb L) w p xs v) (E : ER r code pos w0 L w l) : Sl kd (Nr r w0.heap.size) w q xs v :=
  h.frame (fun s x m hb => by
    have hne : x ≠ r := fun e => hb.2.1 (by rw [e]; exact E.lab)
    refine ⟨fun o v hc => hc, hne, ?_, hb.2.2⟩
    cases hx : L x with
    | none => exact absurd hx hb.1
    | some p => exact E.fresh hx hne)
structure HB (h : Hp) : Prop where
  n : h.calls.length ≤ 40
  nt : ∀ c ∈ h.calls, c.temps.length ≤ 10 ∧ c.stack.length ≤ 10
  ns : h.said.length ≤ 200
theorem HB.ofOk {p : Pg} {h : Hp} (H : HOK p h) (hs : h.said.length ≤ 190) : HB h := by
  refine ⟨?_, fun c hc => ?_, by omega⟩
  · have := H.size; have := H.born2; omega
  · have f := form_iff.mp (H.forms c hc)
    have h1 := f.temps
    have h2 := f.stack
    have hm := methOk_iff.mp (prog_meth H.prog f.m0 f.m1)
    have := hm.t1
    omega
theorem HB.set {h : Hp} (B : HB h) {i : Nat} {c : Cl} (h1 : c.temps.length ≤ 10) (h2 : c.stack.length ≤ 10) : HB { h with calls := h.calls.set i c } := by
  refine ⟨by show (h.calls.set i c).length ≤ 40; rw [List.length_set]; exact B.n, fun d hd => ?_, B.ns⟩
  rcases List.mem_or_eq_of_mem_set hd with hd | rfl
  · exact B.nt d hd
  · exact ⟨h1, h2⟩
theorem HB.view {h : Hp} {w : World} {uc us : Value} (B : HB h) (hc : Sl kCall Any w [] h.calls uc) (hs : Sl kPair Any w [] h.said us) : HeapV w h uc us :=
  ⟨hc, hs, by have := B.n; omega, fun c hc => by have := B.nt c hc; omega, by have := B.ns; omega⟩
theorem said_run {p : Pg} : ∀ (n : Nat) (h : Hp), (runH p n h).said.length ≤ h.said.length + n
  | 0, h => Nat.le_refl _
  | n + 1, h => by
    unfold runH
    split
    · have := said_run (p := p) n (stepH p h)
      have := said_step (p := p) (h := h)
      omega
    · omega
theorem sl_one {kd : Kd α} {ok : Ok} {w : World} {p : List Nat} {b : Nat} {y : α} {es : List Value} (hb : Blk w b es) (hK : kd.K ok w (p ++ [0]) y es) (ho : ok w p b kd.sz) : Sl kd ok w p [y] (.slice (some ⟨b, 0, none⟩) 1 1) := by
  refine ⟨_, 1, rfl, Nat.le_refl _, .inr ⟨b, 0, rfl, by simpa using ho, fun i x hx => ?_⟩⟩
  cases i with
  | zero =>
    obtain rfl : y = x := by simpa using hx
    exact ⟨es, hK, fun j c hj => by simpa using hb.cell hj⟩
  | succ i => simp at hx
section
variable {L L' : Lab} {w w' : World} {q : List Nat} {cs : List Cl} {vc : Value} {i : Nat} {b o : Nat} {c : Cl} {ut us : Value}
structure CF (L : Lab) (w : World) (q : List Nat) (vc : Value) (i : Nat) (c : Cl) (b o : Nat) (ut us : Value) : Prop where
  at' : At vc 6 i b o
  lab : L b = some q
  cells : Cells w b o (cellsC c ut us)
  temps : Sl kPair (Own L) w (q ++ [i] ++ [2]) c.temps ut
  stack : Sl kPair (Own L) w (q ++ [i] ++ [3]) c.stack us
theorem Sl.cf {n : Int} {k : Value → Prop} (h : Sl kCall (Own L) w q cs vc) (h0 : 0 ≤ n) (h1 : n < cs.length) (hk : ∀ b o ut us, CF L w q vc n.toNat (callAt cs n) b o ut us → k (.pointer (some ⟨b, o, none⟩))) : ixaT 6 vc (.int .i64 n) k := by
  refine h.ixo_of rfl h0 h1 (fun x b o es mm hx ha ho hK hc => ?_)
  obtain ⟨ut, us, rfl, h2, h3⟩ := hK
  have e : callAt cs n = x := callAt_of hx
  refine hk b o ut us ⟨ha, ho.1, ?_, ?_, ?_⟩
  · rw [e]; exact hc
  · rw [e]; exact h2
  · rw [e]; exact h3
theorem CF.ext (F : CF L w q vc i c b o ut us) (e : Ext w w') : CF L w' q vc i c b o ut us := ⟨F.at', F.lab, F.cells.ext e, F.temps.keepX e, F.stack.keepX e⟩
theorem path_ne {q s : List Nat} {i j : Nat} : q ++ [i] ++ [j] ++ s ≠ q := by
  intro e
  have := congrArg List.length e
  simp at this
theorem CF.st {off : Nat} {v ut' us' : Value} {c' : Cl} {k : World → Prop} (F : CF L w q vc i c b o ut us) (h : Sl kCall (Own L) w q cs vc) (hi : i < cs.length) (hv : v.oneCell' = true) (hoff : off + 1 ≤ 6) (hc : spl (cellsC c ut us) off [v] = cellsC c' ut' us')
    (ht : Sl kPair (Own L) w (q ++ [i] ++ [2]) c'.temps ut') (hs : Sl kPair (Own L) w (q ++ [i] ++ [3]) c'.stack us') (hk : ∀ w', Fr (fun x => x = b) w w' → Sl kCall (Own L) w' q (cs.set i c') vc → k w') : stT (.pointer (some ⟨b, o + off, none⟩)) v w k := by
  obtain ⟨hl, w', a1, a2, a3, a4⟩ := h.puts (vs := [v]) (off := off) F.at' hi hoff (by simpa using hv)
  refine st_of_stN a1 (hk w' a2 (a4 c' (fun es k1 k2 => ?_)))
  have : es = cellsC c ut us := cells_det k2 F.cells (by rw [kCall.len k1]; rfl)
  subst this
  rw [hc]
  exact ⟨ut', us', rfl, ht.other a2 hl (fun s => path_ne), hs.other a2 hl (fun s => path_ne)⟩
theorem CF.grow (F : CF L w q vc i c b o ut us) (h : Sl kCall (Own L) w q cs vc) (hl : Lim L w) (hi : i < cs.length) (hc : cs[i]? = some c) (g : Grw (q ++ [i] ++ [2]) L w L' w') (ht : Sl kPair (Own L') w' (q ++ [i] ++ [2]) c.temps ut) :
    Sl kCall (Own L') w' q cs vc ∧ CF L' w' q vc i c b o ut us := by
  have lab : ∀ {x : Nat} {r : List Nat}, L x = some r → L' x = some r := fun hr => g.lx.lab hl hr
  have hS : Sl kPair (Own L') w' (q ++ [i] ++ [3]) c.stack us := F.stack.grow g hl (fun s e => by simp at e)
  have hb : ¬ L b = some (q ++ [i] ++ [2]) := fun e => by rw [F.lab] at e; simp at e
  have hcs : Cells w' b o (cellsC c ut us) := F.cells.fr g.fr hb
  have hk := h.kid (L' := L') (x' := c) F.at' hi g.fr (fun x r hr hn => ⟨fun e => ?_, lab hr⟩) F.cells rfl ⟨ut, us, rfl, ht, hS⟩
  · rw [set_self hc] at hk
    exact ⟨hk, F.at', lab F.lab, hcs, ht, hS⟩
  · rw [hr] at e
    have e : q ++ r = q ++ ([i] ++ [2]) := by simpa using Option.some.inj e
    have := List.append_cancel_left e
    subst this
    exact hn rfl
end
attribute [local irreducible] ldT ldsT stT stsT allocT boxT bldT bslT nilT fadT ixaT fldT extT lenT pickT binT notT cviT opT opU condT clT clvT ivT loopT arT ndT World.cell? World.frozen? World.alloc World.drew World.setCell Blk Cells Sl
theorem c_specHeapNew {p : Pg} {u : Value} {w : World} {R : VW} (hp : Sl kMeth Any w [] p u) (hpo : progOk p = true)
    (hR : ∀ w' M uc us, Ext w w' → Born w M → Lim M w' → HOwn M w' (newH p) uc us → R (.tuple #[.agg (heapCells (newH p) uc us).toArray, .bool true]) w') : clT PR 170 [.agg #[u]] w R := by
  have hpl := prog_len hpo
  have hml : ∀ m ∈ p, m.ops.length ≤ 1073741824 := fun m hm => by
    have hpo := hpo
    unfold progOk at hpo
    simp only [Bool.and_eq_true, List.all_eq_true] at hpo
    have := (methOk_iff.mp (hpo.2.2 m hm)).ops
    omega
  have hm0 := methOk_iff.mp (prog_meth hpo (i := 0) (by omega) (by omega))
  have m1 := hm0.a0
  have m2 := hm0.t0
  have m3 := hm0.t1
  refine Fspec_HeapNew.cl ?_
  unfold Fspec_HeapNew
  have E := En.start w
  refine E.box (fun b1 w1 E _ => ?_)
  refine E.al (fun b2 w2 E _ => ?_)
  repeat (((refine E.lds (by first | exact .head _ | exact .tail _ (.head _)) (by exact rfl) ?_)))
  refine c_specProgOk (E.any hp) (by omega) hml (fun w3 e3 => ?_)
  rw [hpo]
  replace E := E.ext e3
  (refine not_of ?_)
  (refine condT_false ?_)
  repeat (((refine E.lds (by first | exact .head _ | exact .tail _ (.head _)) (by exact rfl) ?_)))
  refine bsl_of' rfl rfl rfl (fun b4 w4 e4 hb4 k4 => ?_)
  replace E := E.ext e4
  refine c_l11Call (args := []) (E.any hp) Sl.none0 (by omega) (by omega) (by simp) (by omega) (by omega) (fun w7 M7 ut us e7 hb7 hl7 ht hs => ?_)
  have ht := ht.inR (q := [0, 0]) (apart_of E.mu.lim hb7)
  have hs := hs.inR (q := [0, 0]) (apart_of E.mu.lim hb7)
  replace E := E.join [0, 0] e7 hb7 hl7
  refine bsl_of' rfl rfl rfl (fun b8 w8 e8 hb8 k8 => ?_)
  have hap := apart_of E.mu.lim (lab1_born (p := [0]) hb8)
  have hl8 := k8.lt
  have ht := (ht.keepX e8).inL (q := []) (M := lab1 b8 [0])
  have hs := (hs.keepX e8).inL (q := []) (M := lab1 b8 [0])
  replace E := E.join [] e8 (lab1_born (p := [0]) hb8) (lab1_lim (p := [0]) hl8)
  have hlab : joinL (joinL noL [0, 0] M7) [] (lab1 b8 [0]) b8 = some [0] := joinL_right (by simp [lab1]) (hap b8 [0] (by simp [lab1]))
  generalize joinL (joinL noL [0, 0] M7) [] (lab1 b8 [0]) = L at E ht hs hlab
  have k8 : Blk w8 b8 (cellsC (newC p 0 [] (-1)) ut us) := k8
  have hc : Sl kCall (Own L) w8 [0] [newC p 0 [] (-1)] (.slice (some ⟨b8, 0, none⟩) 1 1) := sl_one k8 ⟨ut, us, rfl, ht, hs⟩ (k8.own hlab (by simp [kCall, cellsC]))
  refine bsl_of' rfl rfl rfl (fun b9 w9 e9 hb9 k9 => ?_)
  replace E := E.ext e9
  have hc := hc.keepX e9
  refine bld_of (cs := #[.slice (some ⟨b8, 0, none⟩) 1 1, .int .i64 0, .int .i64 1, .slice (some ⟨b9, 0, none⟩) 0 0, .int .i64 0]) rfl ?_
  refine En.sts' (vs := heapCells (newH p) (.slice (some ⟨b8, 0, none⟩) 1 1) (.slice (some ⟨b9, 0, none⟩) 0 0)) [] rfl E rfl rfl (fun u hu => List.all_eq_true.mp rfl u hu) (fun w10 E e10 => ?_)
  refine E.lds (.head _) rfl ?_
  exact hR _ _ _ _ E.toExt E.born E.mu.lim ⟨hc.loc e10, Sl.none0⟩
def heapZ : List Value := [.slice none 0 0, .int .i64 0, .int .i64 0, .slice none 0 0, .int .i64 0]
structure DHp (r : Nat) (code : List Int) (pos : Int) (w w' : World) (pos' : Int) (p : Pg) (h : Hp) (u uc us : Value) : Prop where
  fr : Fr (fun x => x = r) w w'
  rd : Rd w' r code pos'
  lo : pos ≤ pos'
  hi : pos' ≤ pos + 500
  prog : progOk p = true
  meth : Sl kMeth (Nr r w.heap.size) w' [] p u
  calls : Sl kCall (Nr r w.heap.size) w' [] h.calls uc
  said : Sl kPair (Nr r w.heap.size) w' [] h.said us
  small : HB h
theorem c_heap71 {r : Nat} {code : List Int} {pos : Int} {w : World} {R : VW} (hrd : Rd w r code pos) (hb : Bytes code) (hp : 0 ≤ pos) (hp' : pos ≤ 40000)
    (hR : ∀ u uc us w' pos' p h, DHp r code pos w w' pos' p h u uc us → R (.tuple #[.agg #[u], .agg (heapCells h uc us).toArray]) w') : clT PR 104 [.pointer (some ⟨r, 0, none⟩)] w R := by
  refine Fspec_l71Heap.cl ?_
  unfold Fspec_l71Heap
  have E := ER.init hrd
  refine E.al (fun b2 w1 E _ => ?_)
  refine E.al (fun b3 w2 E _ => ?_)
  refine c_prog E.rd hb hp (by omega) (fun v w3 M1 pos1 p D1 hs hpo hpl => ?_)
  have d1 := D1.lo
  have d2 := D1.hi
  obtain ⟨E1, T1⟩ := E.take [5] D1
  have ho := hs.inR (q := [5]) (E.apart D1)
  clear E T1 hs
  have E := E1
  clear E1
  have hml : ∀ m ∈ p, m.ops.length ≤ 1073741824 := fun m hm => by
    have hpo := hpo
    unfold progOk at hpo
    simp only [Bool.and_eq_true, List.all_eq_true] at hpo
    have := (methOk_iff.mp (hpo.2.2 m hm)).ops
    omega
  refine E.al (fun b4 w4 E e4 => ?_)
  replace ho := ho.keepX e4
  refine ER.sts' (vs := [v]) [] rfl E rfl rfl (by intro u hu; simp at hu; subst hu; exact ho.one) (fun w5 E e5 => ?_)
  replace ho := ho.loc e5
  refine E.en.lds (.head _) rfl ?_
  refine c_specHeapNew ho.any hpo (fun w6 M2 uc us e6 hb6 hl6 hO => ?_)
  have hap := apart_of E.en.mu.lim hb6
  have hcl := hO.calls.inR (q := [6]) hap
  have hsd := hO.said.inR (q := [6]) hap
  replace ho := (ho.keepX e6).inL (q := [6]) (M := M2)
  replace E := E.join [6] e6 hb6 hl6
  clear hO hb6 hl6 hap
  refine ext_of rfl ?_
  refine ext_of rfl ?_
  refine E.al (fun b5 w7 E e7 => ?_)
  replace ho := ho.keepX e7
  replace hcl := hcl.keepX e7
  replace hsd := hsd.keepX e7
  refine ER.sts' (vs := heapCells (newH p) uc us) [] rfl E rfl rfl (by intro x hx; simp only [heapCells, List.mem_cons, List.not_mem_nil, or_false] at hx; rcases hx with h | h | h | h | h <;> rw [h] <;> first | rfl | exact hcl.one | exact hsd.one) (fun w8 E e8 => ?_)
  replace ho := (ho.loc e8).drewX
  replace hcl := (hcl.loc e8).drewX
  replace hsd := (hsd.loc e8).drewX
  replace E := E.drew
  refine E.en.lds (.tail _ (.head _)) rfl ?_
  refine E.en.lds (.head _) rfl ?_
  refine c_pickE E hb (by omega) (by omega) (by omega) (fun x w9 hx0 hx1 E T => ?_)
  replace ho := ho.tr T (by decide)
  replace hcl := hcl.tr T (by decide)
  replace hsd := hsd.tr T (by decide)
  refine ⟨E.en.lds (.head _) rfl rfl, ?_⟩
  refine ⟨E.en.lds (.tail _ (.head _)) rfl rfl, ?_⟩
  have HN := newH_ok hpo
  have hrun : runR p (newH p) x = (runH p x.toNat (newH p), true) := by
    unfold runR
    rw [hok_iff.mpr HN, inB_t hx0 (by omega)]; rfl
  have hBN : HB (newH p) := HB.ofOk HN (by show 0 ≤ 190; omega)
  refine c_specRun ho.any (by omega) hml (hBN.view hcl.any hsd.any) (by show 0 ≤ _; omega) (fun w10 M3 uc' us' e10 hb10 hl10 hO => ?_)
  rw [hrun] at hO ⊢
  have H := run_ok x.toNat (newH p) HN
  have hkeep := keeps_run x.toNat HN
  have hsaid := said_run (p := p) x.toNat (newH p)
  have hs0 : (newH p).said.length = 0 := rfl
  have hB : HB (runH p x.toNat (newH p)) := HB.ofOk H (by omega)
  have hsl : (runH p x.toNat (newH p)).said.length ≤ 100 := by omega
  have hne : 0 < (runH p x.toNat (newH p)).calls.length := by
    have h1 : (newH p).calls.length = 1 := rfl
    have := hkeep.1
    omega
  generalize runH p x.toNat (newH p) = h at hO H hB hne hsl
  have hO : HOwn M3 w10 h uc' us' := hO
  clear hkeep hsaid hs0 hrun HN hBN hcl hsd
  have hap := apart_of E.en.mu.lim hb10
  have hcl := hO.calls.inR (q := [7]) hap
  have hsd := hO.said.inR (q := [7]) hap
  replace ho := (ho.keepX e10).inL (q := [7]) (M := M3)
  replace E := E.join [7] e10 hb10 hl10
  clear hO hb10 hl10 hap
  refine ext_of rfl ?_
  refine ext_of rfl ?_
  refine ER.sts' (vs := heapCells h uc' us') [] rfl E rfl rfl (by intro x hx; simp only [heapCells, List.mem_cons, List.not_mem_nil, or_false] at hx; rcases hx with h | h | h | h | h <;> rw [h] <;> first | rfl | exact hcl.one | exact hsd.one) (fun w11 E e11 => ?_)
  replace ho := ho.loc e11
  replace hcl := hcl.loc e11
  replace hsd := hsd.loc e11
  refine c_pickE E hb (by omega) (by omega) (by omega) (fun y w12 hy0 hy1 E T => ?_)
  replace ho := ho.tr T (by decide)
  replace hcl := hcl.tr T (by decide)
  replace hsd := hsd.tr T (by decide)
  have fin : ∀ (L : Lab) (wx : World) (q : Int) (g : Hp) (gc gs : Value), ER r code q w L wx [(b5, heapCells g gc gs), (b4, [v]), (b3, heapZ), (b2, [.slice none 0 0])] → pos ≤ q → q ≤ pos + 500 → Sl kMeth (Lb L) wx [] p v → Sl kCall (Lb L) wx [] g.calls gc → Sl kPair (Lb L) wx [] g.said gs → HB g →
      ldsT 1 (.pointer (some ⟨b4, 0, none⟩)) wx.drew fun t25 => ldsT 5 (.pointer (some ⟨b5, 0, none⟩)) wx.drew fun t26 => stsT 1 (.pointer (some ⟨b2, 0, none⟩)) t25 wx.drew fun w13 => (ldsT 5 (.pointer (some ⟨b5, 0, none⟩)) w13 fun u => u = t26) ∧ stsT 5 (.pointer (some ⟨b3, 0, none⟩)) t26 w13 fun w14 => ldsT 1 (.pointer (some ⟨b2, 0, none⟩)) w14 fun r15 => ldsT 5 (.pointer (some ⟨b3, 0, none⟩)) w14 fun r16 => R (.tuple #[r15, r16]) w14 := by
    intro L wx q g gc gs E q0 q1 hm hc hs hB
    have E := E.drew
    have hm := hm.lbDrew
    have hc := hc.lbDrew
    have hs := hs.lbDrew
    refine E.en.lds (.tail _ (.head _)) rfl ?_
    refine E.en.lds (.head _) rfl ?_
    refine ER.sts' (vs := [v]) [_, _, _] rfl E rfl rfl (by intro u hu; simp at hu; subst hu; exact hm.one) (fun w13 E e13 => ?_)
    have hm := hm.lbLoc e13
    have hc := hc.lbLoc e13
    have hs := hs.lbLoc e13
    refine ⟨E.en.lds (.head _) rfl rfl, ?_⟩
    refine ER.sts' (vs := heapCells g gc gs) [_, _] rfl E rfl rfl (by intro x hx; simp only [heapCells, List.mem_cons, List.not_mem_nil, or_false] at hx; rcases hx with h | h | h | h | h <;> rw [h] <;> first | rfl | exact hc.one | exact hs.one) (fun w14 E e14 => ?_)
    have hm := hm.lbLoc e14
    have hc := hc.lbLoc e14
    have hs := hs.lbLoc e14
    refine E.en.lds (.tail _ (.tail _ (.tail _ (.head _)))) rfl ?_
    refine E.en.lds (.tail _ (.tail _ (.head _))) rfl ?_
    exact hR _ _ _ _ _ _ _ ⟨E.fr, E.rd, q0, q1, hpo, hm.nr E, hc.nr E, hs.nr E, hB⟩
  (refine gtr_of ?_)
  refine condGt_of (fun hc => ?_) (fun hc => ?_)
  · exact fin _ _ _ h _ _ E (by omega) (by omega) (ho.lb (by decide)) (hcl.lb (by decide)) (hsd.lb (by decide)) hB
  refine c_pickE E hb (by omega) (by omega) (by omega) (fun z w13 hz0 hz1 E T => ?_)
  replace ho := ho.tr T (by decide)
  replace hcl := hcl.tr T (by decide)
  replace hsd := hsd.tr T (by decide)
  (refine eql_of ?_)
  refine condP_of (fun hz => ?_) (fun _ => ?_)
  · (refine fad_of ?_)
    refine E.en.ld (.head _) rfl ?_
    refine hcl.len_of ?_
    have := hB.n
    (refine add_of (by (omega)) (by (omega)) ?_)
    refine c_pickE E hb (by omega) (by omega) (by omega) (fun a w14 ha0 ha1 E T => ?_)
    replace ho := ho.tr T (by decide)
    replace hcl := hcl.tr T (by decide)
    replace hsd := hsd.tr T (by decide)
    (refine sub_of (by (omega)) (by (omega)) ?_)
    (refine fad_of ?_)
    refine ER.st' [] E (by simp [heapCells]) rfl (fun w15 E e15 => ?_)
    exact fin _ _ _ { h with now := a - 1 } _ _ E (by omega) (by omega) ((ho.loc e15).lb (by decide)) ((hcl.loc e15).lb (by decide)) ((hsd.loc e15).lb (by decide)) ⟨hB.n, hB.nt, hB.ns⟩
  (refine eql_of ?_)
  refine condP_of (fun hz => ?_) (fun _ => ?_)
  · refine E.bsl rfl rfl rfl (fun b6 w14 E e14 => ?_)
    refine c_pickE E hb (by omega) (by omega) (by omega) (fun a w15 ha0 ha1 E T => ?_)
    replace ho := (ho.keepX e14).tr T (by decide)
    replace hcl := (hcl.keepX e14).tr T (by decide)
    replace hsd := (hsd.keepX e14).tr T (by decide)
    refine ixaS_of ha0 (by omega) ?_
    have ha : a = 0 ∨ a = 1 := by omega
    have key : ∀ n : Int, ((heapCells h uc' us').set 2 (.int .i64 n)) = heapCells { h with born := n } uc' us' := fun _ => rfl
    rcases ha with rfl | rfl
    · refine E.en.ld (.head _) rfl ?_
      (refine fad_of ?_)
      refine ER.st' [] E.pop (by simp [heapCells]) rfl (fun w16 E e16 => ?_)
      exact fin _ _ _ { h with born := 0 } _ _ E (by omega) (by omega) ((ho.loc e16).lb (by decide)) ((hcl.loc e16).lb (by decide)) ((hsd.loc e16).lb (by decide)) ⟨hB.n, hB.nt, hB.ns⟩
    · refine E.en.ld (.head _) rfl ?_
      (refine fad_of ?_)
      refine ER.st' [] E.pop (by simp [heapCells]) rfl (fun w16 E e16 => ?_)
      exact fin _ _ _ { h with born := 31 } _ _ E (by omega) (by omega) ((ho.loc e16).lb (by decide)) ((hcl.loc e16).lb (by decide)) ((hsd.loc e16).lb (by decide)) ⟨hB.n, hB.nt, hB.ns⟩
  (refine eql_of ?_)
  refine condP_of (fun hz => ?_) (fun _ => ?_)
  · refine c_pickE E hb (by omega) (by omega) (by omega) (fun a w14 ha0 ha1 E T => ?_)
    replace ho := ho.tr T (by decide)
    replace hcl := hcl.tr T (by decide)
    replace hsd := hsd.tr T (by decide)
    (refine sub_of (by (omega)) (by (omega)) ?_)
    (refine fad_of ?_)
    refine ER.st' [] E (by simp [heapCells]) rfl (fun w15 E e15 => ?_)
    exact fin _ _ _ { h with code := a - 1 } _ _ E (by omega) (by omega) ((ho.loc e15).lb (by decide)) ((hcl.loc e15).lb (by decide)) ((hsd.loc e15).lb (by decide)) ⟨hB.n, hB.nt, hB.ns⟩
  (refine eql_of ?_)
  have hc0 := hB.nt _ (callAt_mem (cs := h.calls) (i := 0) (by omega) (by omega))
  have hmu := E.en.mu.lim
  refine condP_of (fun hz => ?_) (fun _ => ?_)
  · replace E := E.drew
    replace ho := ho.drewX
    replace hcl := hcl.drewX
    replace hsd := hsd.drewX
    (refine fad_of ?_)
    refine E.en.ld (.head _) rfl ?_
    (refine fad_of ?_)
    refine E.en.ld (.head _) rfl ?_
    refine hcl.cf (n := 0) (by omega) (by omega) (fun b o ut us F => ?_)
    (refine fad_of ?_)
    refine ld_of (F.cells.at 5 rfl) ?_
    (refine not_of ?_)
    refine hcl.cf (n := 0) (by omega) (by omega) (fun b o ut us F => ?_)
    (refine fad_of ?_)
    refine F.st (off := 5) (c' := { callAt h.calls 0 with dead := !(callAt h.calls 0).dead }) hcl (by omega) rfl (by omega) rfl F.temps F.stack (fun w14 e14 hcl' => ?_)
    have E2 := E.wr F.lab (by decide) e14
    have ho2 := ho.other e14 F.lab (by simp)
    have hsd2 := hsd.other e14 F.lab (by simp)
    exact fin _ _ _ { h with calls := h.calls.set 0 { callAt h.calls 0 with dead := !(callAt h.calls 0).dead } } _ _ E2 (by omega) (by omega) (ho2.lb (by decide)) (hcl'.lb (by decide)) (hsd2.lb (by decide)) (hB.set hc0.1 hc0.2)
  (refine eql_of ?_)
  refine condP_of (fun hz => ?_) (fun _ => ?_)
  · replace E := E.drew
    replace ho := ho.drewX
    replace hcl := hcl.drewX
    replace hsd := hsd.drewX
    (refine fad_of ?_)
    refine E.en.ld (.head _) rfl ?_
    (refine fad_of ?_)
    refine E.en.ld (.head _) rfl ?_
    refine hcl.cf (n := 0) (by omega) (by omega) (fun b o ut us F => ?_)
    (refine fad_of ?_)
    refine ld_of (F.cells.at 2 rfl) ?_
    refine bld_of (cs := #[.int .i64 0, .int .i64 0]) rfl ?_
    refine E.bsl rfl rfl rfl (fun b6 w14 E e14 => ?_)
    replace ho := ho.keepX e14
    replace hcl := hcl.keepX e14
    replace hsd := hsd.keepX e14
    replace F := F.ext e14
    refine ⟨ld_of (F.cells.at 2 rfl) rfl, ?_⟩
    refine ⟨E.en.ld (.tail _ (.head _)) rfl rfl, ?_⟩
    refine ⟨E.en.ld (.tail _ (.head _)) rfl rfl, ?_⟩
    have hmu := E.en.mu.lim
    refine grow_lit [(0, 0)] (by kernel_rfl) F.temps (E.en.blk (.head _)) rfl (by simp; omega) E.en.mu.lim (fun v9 w15 L9 g9 k9 h9 => ?_)
    obtain ⟨hcl9, F9⟩ := F.grow hcl hmu (by omega) (by have := callAt_get (cs := h.calls) (i := 0) (by omega) (by omega); exact this) g9 k9
    have E := E.pop.grow g9 (by decide)
    have ho := ho.grow g9 hmu (by simp)
    have hsd := hsd.grow g9 hmu (by simp)
    refine ⟨E.en.ld (.head _) rfl rfl, ?_⟩
    refine hcl9.cf (n := 0) (by omega) (by omega) (fun b o ut us F => ?_)
    (refine fad_of ?_)
    refine F.st (off := 2) (c' := { callAt h.calls 0 with temps := (callAt h.calls 0).temps ++ [(0, 0)] }) hcl9 (by omega) h9.one (by omega) rfl h9 F.stack (fun w16 e16 hcl' => ?_)
    have E2 := E.wr F.lab (by decide) e16
    have ho2 := ho.other e16 F.lab (by simp)
    have hsd2 := hsd.other e16 F.lab (by simp)
    refine fin _ _ _ { h with calls := h.calls.set 0 { callAt h.calls 0 with temps := (callAt h.calls 0).temps ++ [(0, 0)] } } _ _ E2 (by omega) (by omega) (ho2.lb (by decide)) (hcl'.lb (by decide)) (hsd2.lb (by decide)) ?_
    have f := H.at (i := 0) (by omega) (by omega)
    have hm := H.meth (i := 0) (by omega) (by omega)
    have f1 := f.temps
    have f2 := hm.t1
    refine hB.set ?_ hc0.2
    simp only [List.length_append, List.length_singleton]
    omega
  (refine eql_of ?_)
  refine condP_of (fun hz => ?_) (fun _ => ?_)
  · (refine fad_of ?_)
    refine E.en.ld (.head _) rfl ?_
    (refine fad_of ?_)
    refine E.en.ld (.head _) rfl ?_
    refine hcl.len_of ?_
    have := hB.n
    (refine sub_of (by (omega)) (by (omega)) ?_)
    refine hcl.cf (n := 0) (by omega) (by omega) (fun b o ut us F => ?_)
    (refine fad_of ?_)
    refine F.st (off := 4) (c' := { callAt h.calls 0 with sender := (h.calls.length : Int) - 1 }) hcl (by omega) rfl (by omega) rfl F.temps F.stack (fun w14 e14 hcl' => ?_)
    have E2 := E.wr F.lab (by decide) e14
    have ho2 := ho.other e14 F.lab (by simp)
    have hsd2 := hsd.other e14 F.lab (by simp)
    exact fin _ _ _ { h with calls := h.calls.set 0 { callAt h.calls 0 with sender := (h.calls.length : Int) - 1 } } _ _ E2 (by omega) (by omega) (ho2.lb (by decide)) (hcl'.lb (by decide)) (hsd2.lb (by decide)) (hB.set hc0.1 hc0.2)
  (refine eql_of ?_)
  refine condP_of (fun hz => ?_) (fun _ => ?_)
  · (refine fad_of ?_)
    refine E.en.ld (.head _) rfl ?_
    refine bld_of (cs := #[.int .i64 2, .int .i64 9]) rfl ?_
    refine E.bsl rfl rfl rfl (fun b6 w14 E e14 => ?_)
    replace ho := ho.keepX e14
    replace hcl := hcl.keepX e14
    replace hsd := hsd.keepX e14
    have hmu := E.en.mu.lim
    have := hB.ns
    refine grow_lit [(2, 9)] (by kernel_rfl) hsd (E.en.blk (.head _)) rfl (by simp; omega) E.en.mu.lim (fun v9 w15 L9 g9 k9 h9 => ?_)
    have E := E.pop.grow g9 (by decide)
    have ho := ho.grow g9 hmu (by simp)
    have hcl := hcl.grow g9 hmu (by simp)
    (refine fad_of ?_)
    refine ER.st' [] E (by simp [heapCells]) h9.one (fun w16 E e16 => ?_)
    refine fin _ _ _ { h with said := h.said ++ [(2, 9)] } _ _ E (by omega) (by omega) ((ho.loc e16).lb (by decide)) ((hcl.loc e16).lb (by decide)) ((h9.loc e16).lb (by decide)) ⟨hB.n, hB.nt, ?_⟩
    show (h.said ++ [((2, 9) : V)]).length ≤ 200
    rw [List.length_append, List.length_singleton]; omega
  · (refine fad_of ?_)
    refine E.en.ld (.head _) rfl ?_
    have hlc : Sl kCall (Lb _) _ [] h.calls uc' := hcl.lb (by decide)
    refine sllE_of (q := []) (by kernel_rfl) (free_lb _) hlc (by omega) (by omega) (fun v' hv' => ?_)
    (refine fad_of ?_)
    refine ER.st' [] E (by simp [heapCells]) hv'.one (fun w16 E e16 => ?_)
    refine fin _ _ _ { h with calls := h.calls.drop 1 } _ _ E (by omega) (by omega) ((ho.loc e16).lb (by decide)) (hv'.lbLoc e16) ((hsd.loc e16).lb (by decide)) ⟨?_, fun c hc => hB.nt c (List.mem_of_mem_drop (i := 1) hc), hB.ns⟩
    show (h.calls.drop 1).length ≤ 40
    have := hB.n
    rw [List.length_drop]; omega
theorem Bt.ext {w w' : World} {code : List Int} {v : Value} (h : Bt w code v) (e : Ext w w') : Bt w' code v :=
  ⟨h.1, h.2.imp id (fun h => h.frame (fun r b m hb => ⟨fun o v hc => Ext.cell e hc, Nat.lt_of_lt_of_le hb e.size⟩))⟩
structure DW (w w' : World) (p : Pg) (h : Hp) (u uc us : Value) : Prop where
  ext : Ext w w'
  prog : progOk p = true
  meth : Sl kMeth Any w' [] p u
  view : HeapV w' h uc us
  small : HB h
end Go.PT
namespace Go.PT
variable {α : Type}
def Bet (n m k : Nat) : Ok := fun w _ b _ => (b < n ∨ (m ≤ b ∧ b < k)) ∧ b < w.heap.size
def Old (n : Nat) : Ok := fun w _ b _ => b < n ∧ b < w.heap.size
theorem Sl.oldExt {kd : Kd α} {n : Nat} {w w' : World} {p : List Nat} {xs : List α} {v : Value} (h : Sl kd (Old n) w p xs v) (e : Ext w w') : Sl kd (Old n) w' p xs v :=
  h.frame (fun s y m hb => ⟨fun o v hc => Ext.cell e hc, hb.1, Nat.lt_of_lt_of_le hb.2 e.size⟩)
theorem Sl.oldAny {kd : Kd α} {n : Nat} {w : World} {p q : List Nat} {xs : List α} {v : Value} (h : Sl kd (Old n) w p xs v) : Sl kd Any w q xs v := h.frame (fun s y m hb => ⟨fun o v hc => hc, hb.2⟩)
theorem Sl.betAny {kd : Kd α} {n m k : Nat} {w : World} {p q : List Nat} {xs : List α} {v : Value} (h : Sl kd (Bet n m k) w p xs v) : Sl kd Any w q xs v := h.frame (fun s y m hb => ⟨fun o v hc => hc, hb.2⟩)
theorem Sl.betExt {kd : Kd α} {n m k : Nat} {w w' : World} {p : List Nat} {xs : List α} {v : Value} (h : Sl kd (Bet n m k) w p xs v) (e : Ext w w') : Sl kd (Bet n m k) w' p xs v :=
  h.frame (fun s y m hb => ⟨fun o v hc => Ext.cell e hc, hb.1, Nat.lt_of_lt_of_le hb.2 e.size⟩)
theorem Sl.betSet {kd : Kd α} {n m k x : Nat} {w w' : World} {p : List Nat} {xs : List α} {v : Value} (h : Sl kd (Bet n m k) w p xs v) (e : Fr (fun y => y = x) w w') (hx : (n ≤ x ∧ x < m) ∨ k ≤ x) (hnm : n ≤ m) (hmk : m ≤ k) : Sl kd (Bet n m k) w' p xs v :=
  h.frame (fun s y m hb => ⟨fun o v hc => e.cell (fun he => by have := hb.1; omega) hc, hb.1, Nat.lt_of_lt_of_le hb.2 e.size⟩)
theorem Sl.ownBet {kd : Kd α} {L : Lab} {n : Nat} {w0 w : World} {p q : List Nat} {xs : List α} {v : Value} (h : Sl kd (Own L) w p xs v) (hb : Born w0 L) : Sl kd (Bet n w0.heap.size w.heap.size) w q xs v :=
  h.frame (fun s y m ho => ⟨fun o v hc => hc, .inr ⟨hb y _ ho.1, own_lt ho⟩, own_lt ho⟩)
end Go.PT
namespace Go.PT
def IsRow (k : IntKind) (w : World) (a : Option Addr) (len cap : Nat) (zs : List Int) : Prop :=
  (a = none ∧ len = 0 ∧ cap = 0 ∧ zs = []) ∨
  ∃ x, a = some x ∧ len ≤ cap ∧ cap ≤ maxLen ∧ zs.length = cap ∧ (∀ i, i < zs.length → w.cell? (x.add i) = some (.int k (zs.getD i 0))) ∧ ∀ n ∈ zs, (Lit.int k n).wf = true
theorem bt_of {w : World} {a : Option Addr} {len cap : Nat} {zs : List Int} (h : IsRow .u8 w a len cap zs) : ∃ code, Bt w code (.slice a len cap) ∧ ∀ x ∈ code, 0 ≤ x ∧ x ≤ 255 := by
  rcases h with ⟨rfl, rfl, rfl, rfl⟩ | ⟨x, rfl, h1, _, h3, h4, h5⟩
  · exact ⟨[], ⟨⟨_, _, rfl, Nat.le_refl _⟩, .inl rfl⟩, by simp⟩
  · have hl : (zs.take len).length = len := by rw [List.length_take]; omega
    refine ⟨zs.take len, ⟨⟨some x, cap, by rw [hl], by omega⟩, ?_⟩, fun n hn => ?_⟩
    · by_cases h0 : len = 0
      · exact .inl (by rw [h0]; rfl)
      · right
        obtain ⟨b, o, spot⟩ := x
        have hc := h4 0 (by omega)
        have hsp : spot = none := by
          cases spot with
          | none => rfl
          | some s =>
            have e : (Addr.add ⟨b, o, some s⟩ 0) = ⟨b, o, some s⟩ := by simp [Addr.add]
            rw [e] at hc
            unfold World.cell? at hc
            simp at hc
            split at hc <;> simp at hc
        subst hsp
        have hcell : ∀ i, i < len → w.cell? ⟨b, o + i, none⟩ = some (.int .u8 (zs.getD i 0)) := fun i hi => by
          have := h4 i (by omega)
          rwa [Addr.add_lit] at this
        refine ⟨some ⟨b, o, none⟩, cap, by rw [hl], by omega, .inr ⟨b, o, rfl, cell_lt (hcell 0 (by omega)), fun i y hy => ⟨[.int .u8 y], rfl, fun j c hj => ?_⟩⟩⟩
        have hi : i < len := by have := (List.getElem?_eq_some_iff.mp hy).1; omega
        rw [List.getElem?_take_of_lt hi] at hy
        cases j with
        | zero =>
          have : c = .int .u8 y := by simpa using hj.symm
          subst this
          have := hcell i hi
          rw [List.getD_eq_getElem?_getD, hy] at this
          simpa [kByte, Kd.flat] using this
        | succ j => simp at hj
    · have := h5 n (List.mem_of_mem_take hn)
      simp [Lit.wf, IntKind.min, IntKind.max, IntKind.signed, IntKind.bits] at this
      omega
end Go.PT
namespace Go.PT
variable {α : Type}
theorem En.ar1 {L0 L : Lab} {w0 w : World} {l l0 : List (Nat × List Value)} {s : List (Option Nat)} {t : Nat} {z : Array Value} {k : World → List (Option Nat) → Prop} (E : En L0 w0 L w l) (hs : SlE s z l0 l) (hk : ∀ w' s' l', En L0 w0 L w' l' → Ext w w' → SlE s' z l0 l' → k w' s') : arT [(t, z)] w s k := by
  rcases hs with ⟨rfl, rfl⟩ | ⟨b, rfl, rfl⟩
  · refine ar_slot Slot.init (Nat.le_refl _) (fun w' s' e hs => ?_)
    rcases hs with rfl | ⟨b, rfl, hb, kb⟩
    · exact hk _ _ _ (E.ext e) e (.inl ⟨rfl, rfl⟩)
    · exact hk _ _ _ (E.add e hb kb) e (.inr ⟨b, rfl, rfl⟩)
  · exact ar_some (hk _ _ _ E (Fr.refl _ _) (.inr ⟨b, rfl, rfl⟩))
theorem Bt.len_of {w : World} {code : List Int} {v : Value} {k : Value → Prop} (h : Bt w code v) (hk : k (.int .i64 code.length)) : lenT v k := by
  obtain ⟨A, c, hv, _⟩ := h.1
  rw [hv]; exact hk
theorem Sl.anyOld {kd : Kd α} {w : World} {p q : List Nat} {xs : List α} {v : Value} (h : Sl kd Any w p xs v) : Sl kd (Old w.heap.size) w q xs v := h.frame (fun s y m hb => ⟨fun o v hc => hc, hb, hb⟩)
end Go.PT
namespace Go.PT
def cellsF (f : Fm) (u v : Value) : List Value := [.int .i64 f.method, .int .i64 f.pc, .int .i64 f.twin, u, v]
def cellsT (t : Tw) (u v : Value) : List Value := [.int .i64 t.page, .int .i64 t.at', .int .i64 t.left.method, .int .i64 t.left.pc, u, v, .int .i64 t.left.sender, .bool t.left.dead]
def kFm : Kd Fm where
  sz := 5
  K := fun ok w p f cs => ∃ u v, cs = cellsF f u v ∧ Sl kPair ok w (p ++ [2]) f.temps u ∧ Sl kPair ok w (p ++ [3]) f.stack v
  len := fun h => by obtain ⟨u, v, rfl, _⟩ := h; rfl
  one := fun h v hv => by
    obtain ⟨u, u', rfl, hu, hu'⟩ := h
    simp [cellsF] at hv
    rcases hv with rfl | rfl | rfl | rfl | rfl
    · rfl
    · rfl
    · rfl
    · exact hu.one
    · exact hu'.one
  frame := fun h hf => by
    obtain ⟨u, u', rfl, hu, hu'⟩ := h
    refine ⟨u, u', rfl, hu.frame (fun r b m ho => ?_), hu'.frame (fun r b m ho => ?_)⟩ <;>
    · rw [List.append_assoc] at ho ⊢
      exact hf _ b m ho
def kPn : Kd Pn where
  sz := 2
  K := fun ok w p g cs => ∃ u, cs = [.int .i64 g.base, u] ∧ Sl kFm ok w (p ++ [1]) g.frames u
  len := fun h => by obtain ⟨u, rfl, _⟩ := h; rfl
  one := fun h v hv => by
    obtain ⟨u, rfl, hu⟩ := h
    simp at hv
    rcases hv with rfl | rfl
    · rfl
    · exact hu.one
  frame := fun h hf => by
    obtain ⟨u, rfl, hu⟩ := h
    refine ⟨u, rfl, hu.frame (fun r b m ho => ?_)⟩
    rw [List.append_assoc] at ho ⊢
    exact hf _ b m ho
def kTw : Kd Tw where
  sz := 8
  K := fun ok w p t cs => ∃ u v, cs = cellsT t u v ∧ Sl kPair ok w (p ++ [2]) t.left.temps u ∧ Sl kPair ok w (p ++ [3]) t.left.stack v
  len := fun h => by obtain ⟨u, v, rfl, _⟩ := h; rfl
  one := fun h v hv => by
    obtain ⟨u, u', rfl, hu, hu'⟩ := h
    simp [cellsT] at hv
    rcases hv with rfl | rfl | rfl | rfl | rfl | rfl | rfl | rfl
    · rfl
    · rfl
    · rfl
    · rfl
    · exact hu.one
    · exact hu'.one
    · rfl
    · rfl
  frame := fun h hf => by
    obtain ⟨u, u', rfl, hu, hu'⟩ := h
    refine ⟨u, u', rfl, hu.frame (fun r b m ho => ?_), hu'.frame (fun r b m ho => ?_)⟩ <;>
    · rw [List.append_assoc] at ho ⊢
      exact hf _ b m ho
section
variable {w w' : World} {q : List Nat} {v : Value} {i : Int} {k : Value → Prop}
theorem fmOf_of {fs : List Fm} {i : Nat} {f : Fm} (h : fs[i]? = some f) : fs.getD i fm0 = f := by rw [List.getD_eq_getElem?_getD, h]; rfl
theorem pnOf_of {gs : List Pn} {i : Nat} {g : Pn} (h : gs[i]? = some g) : gs.getD i pn0 = g := by rw [List.getD_eq_getElem?_getD, h]; rfl
theorem twOf_of {ts : List Tw} {i : Nat} {t : Tw} (h : ts[i]? = some t) : ts.getD i tw0 = t := by rw [List.getD_eq_getElem?_getD, h]; rfl
theorem fm_ix {fs : List Fm} (h : Sl kFm Any w q fs v) (h0 : 0 ≤ i) (h1 : i < fs.length) (hk : ∀ b o u u', Cells w b o (cellsF (fmOf fs i) u u') → Sl kPair Any w [] (fmOf fs i).temps u → Sl kPair Any w [] (fmOf fs i).stack u' → k (.pointer (some ⟨b, o, none⟩))) : ixaT 5 v (.int .i64 i) k := by
  refine h.ix_of rfl h0 h1 (fun x b o es hx hK hc => ?_)
  obtain ⟨u, u', rfl, hu, hu'⟩ := hK
  have e : fmOf fs i = x := fmOf_of hx
  refine hk b o u u' ?_ ?_ ?_
  · rw [e]; exact hc
  · rw [e]; exact hu.re
  · rw [e]; exact hu'.re
theorem pn_ix {gs : List Pn} (h : Sl kPn Any w q gs v) (h0 : 0 ≤ i) (h1 : i < gs.length) (hk : ∀ b o u, Cells w b o [.int .i64 (gs.getD i.toNat pn0).base, u] → Sl kFm Any w [] (gs.getD i.toNat pn0).frames u → k (.pointer (some ⟨b, o, none⟩))) : ixaT 2 v (.int .i64 i) k := by
  refine h.ix_of rfl h0 h1 (fun x b o es hx hK hc => ?_)
  obtain ⟨u, rfl, hu⟩ := hK
  have e : gs.getD i.toNat pn0 = x := pnOf_of hx
  refine hk b o u ?_ ?_
  · rw [e]; exact hc
  · rw [e]; exact hu.re
theorem tw_ix {ts : List Tw} (h : Sl kTw Any w q ts v) (h0 : 0 ≤ i) (h1 : i < ts.length) (hk : ∀ b o u u', Cells w b o (cellsT (ts.getD i.toNat tw0) u u') → Sl kPair Any w [] (ts.getD i.toNat tw0).left.temps u → Sl kPair Any w [] (ts.getD i.toNat tw0).left.stack u' → k (.pointer (some ⟨b, o, none⟩))) : ixaT 8 v (.int .i64 i) k := by
  refine h.ix_of rfl h0 h1 (fun x b o es hx hK hc => ?_)
  obtain ⟨u, u', rfl, hu, hu'⟩ := hK
  have e : ts.getD i.toNat tw0 = x := twOf_of hx
  refine hk b o u u' ?_ ?_ ?_
  · rw [e]; exact hc
  · rw [e]; exact hu.re
  · rw [e]; exact hu'.re
end
theorem Cells.part {w : World} {b o : Nat} {cs sub : List Value} (h : Cells w b o cs) (n k : Nat) (hs : (cs.drop n).take k = sub) : Cells w b (o + n) sub := by
  intro j c hj
  have hj2 : cs[n + j]? = some c := by
    rw [← hs, List.getElem?_take] at hj
    split at hj
    · rwa [List.getElem?_drop] at hj
    · cases hj
  have := h (n + j) c hj2
  rwa [← Nat.add_assoc] at this
theorem Sl.sl {α : Type} {kd : Kd α} {ok : Ok} {w : World} {p : List Nat} {xs : List α} {v : Value} (h : Sl kd ok w p xs v) : ∃ A n c, v = .slice A n c := by obtain ⟨A, c, e⟩ := h.is; exact ⟨A, _, c, e⟩
def machCells (m : Mc) (up uo ut us : Value) : List Value := [.int .i64 m.cells, up, uo, .int .i64 m.now, ut, .int .i64 m.born, us, .int .i64 m.code]
structure MachV (w : World) (m : Mc) (up uo ut us : Value) : Prop where
  pages : Sl kPn Any w [] m.pages up
  order : Sl kInt Any w [] m.order uo
  twins : Sl kTw Any w [] m.twins ut
  said : Sl kPair Any w [] m.said us
structure MB (m : Mc) : Prop where
  np : m.pages.length ≤ 2097152
  nf : ∀ g ∈ m.pages, g.frames.length ≤ 2097152 ∧ ∀ f ∈ g.frames, f.temps.length ≤ 2097152 ∧ f.stack.length ≤ 2097152
  no : m.order.length ≤ 2097152
  nt : m.twins.length ≤ 2097152 ∧ ∀ t ∈ m.twins, t.left.temps.length ≤ 2097152 ∧ t.left.stack.length ≤ 2097152
  ns : m.said.length ≤ 2097152
structure MOwn (L : Lab) (w : World) (m : Mc) (up uo ut us : Value) : Prop where
  pages : Sl kPn (Own L) w [0] m.pages up
  order : Sl kInt (Own L) w [1] m.order uo
  twins : Sl kTw (Own L) w [2] m.twins ut
  said : Sl kPair (Own L) w [3] m.said us
section
variable {L : Lab} {w w' : World} {m : Mc} {up uo ut us : Value}
theorem MachV.ext (V : MachV w m up uo ut us) (e : Ext w w') : MachV w' m up uo ut us := ⟨V.pages.ext e, V.order.ext e, V.twins.ext e, V.said.ext e⟩
theorem MOwn.view (O : MOwn L w m up uo ut us) : MachV w m up uo ut us := ⟨O.pages.any, O.order.any, O.twins.any, O.said.any⟩
theorem MOwn.ext (O : MOwn L w m up uo ut us) (e : Ext w w') : MOwn L w' m up uo ut us := ⟨O.pages.keepX e, O.order.keepX e, O.twins.keepX e, O.said.keepX e⟩
theorem MOwn.loc {b : Nat} (O : MOwn L w m up uo ut us) (e : Loc L w w' b) : MOwn L w' m up uo ut us := ⟨O.pages.loc e, O.order.loc e, O.twins.loc e, O.said.loc e⟩
theorem MB.frames (B : MB m) (i : Int) : (pnAt m i).frames.length ≤ 2097152 := by
  unfold pnAt
  rw [List.getD_eq_getElem?_getD]
  rcases Nat.lt_or_ge i.toNat m.pages.length with h | h
  · rw [List.getElem?_eq_getElem h]; exact (B.nf _ (List.getElem_mem h)).1
  · rw [List.getElem?_eq_none h]; simp [pn0]
end
end Go.PT
