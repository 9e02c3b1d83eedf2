/- The reflected texts of functions of the program, and that a call keeps what its text says. -/
import Derived.Test.YtegddhbcglghdaaGreatCtx
set_option linter.unusedVariables false
set_option maxRecDepth 100000
namespace Go.PT
open Go.Proofs
/-! function 15: laws_FnHeapBack -/
def Flaws_FnHeapBack.l1 (x4 x7 x11 x12 x13 : Value) (w : World) (Kn Kb Kr : LW) : Prop := ∀ _ : Env,
  fadT 1 x13 fun t78 =>
  ldT t78 w fun t79 =>
  binT .neq t79 x7 fun t81 =>
  condT t81
  (fadT 1 x13 fun t82 =>
  ldT t82 w fun t83 =>
  fadT 0 x13 fun t84 =>
  ldT t84 w fun t85 =>
  ixaT 6 t85 t83 fun t87 =>
  fadT 4 t87 fun t88 =>
  ldT t88 w fun t89 =>
  fadT 1 x13 fun t90 =>
  stT t90 t89 w fun w63 =>
  fadT 0 x13 fun t91 =>
  ldT t91 w63 fun t92 =>
  ixaT 6 t92 t83 fun t94 =>
  fadT 5 t94 fun t95 =>
  stT t95 (.bool true) w63 fun w64 =>
  fadT 0 x13 fun t96 =>
  ldT t96 w64 fun t97 =>
  ixaT 6 t97 t83 fun t99 =>
  fadT 4 t99 fun t100 =>
  stT t100 (.int .i64 (-1)) w64 fun w65 =>
  fadT 0 x13 fun t101 =>
  ldT t101 w65 fun t102 =>
  ixaT 6 t102 t83 fun t104 =>
  fadT 3 t104 fun t105 =>
  stT t105 (.slice none 0 0) w65 fun w66 =>
  Kn [x4, x7, x11, x12, x13] w66)
  (Kb [x4, x7, x11, x12, x13] w)
def Flaws_FnHeapBack.k2 (x4 x7 x11 x12 x13 : Value) (w : World) (R : VW) : Prop := ∀ _ : Env,
  fadT 0 x13 fun t106 =>
  ldT t106 (w.drew) fun t107 =>
  fadT 0 x13 fun t109 =>
  ldT t109 (w.drew) fun t110 =>
  ixaT 6 t110 x7 fun t112 =>
  fadT 3 t112 fun t113 =>
  ldT t113 (w.drew) fun t114 =>
  clT PR 64 [(.int .i64 44)] (w.drew) fun t115 w67 =>
  (ldT t113 w67 fun u => u = t114) ∧
  (ldT t109 w67 fun u => u = t110) ∧
  (ldT t106 w67 fun u => u = t107) ∧
  bslT 78 1 2 #[(.int .i64 0), (.int .i64 0)] [(0, 2, t115)] w67 fun t116 w68 =>
  (ldT t113 w68 fun u => u = t114) ∧
  (ldT t109 w68 fun u => u = t110) ∧
  (ldT t106 w68 fun u => u = t107) ∧
  opT PR (Builtin.append_ #[35, 35] 35 #[t114, t116]) w68 fun t117 w69 =>
  (ldT t106 w69 fun u => u = t107) ∧
  ixaT 6 t107 x7 fun t118 =>
  fadT 3 t118 fun t119 =>
  stT t119 t117 w69 fun w70 =>
  condT x12
  (ldsT 5 x11 w70 fun t122 =>
  ldsT 5 x13 w70 fun t123 =>
  clT PR 67 [t122, t123] w70 fun t124 w71 =>
  R t124 w71)
  (R (.bool false) w70)
def Flaws_FnHeapBack.r3 (x4 x7 x11 x12 x13 : Value) (w : World) (R : VW) : Prop := ∀ _ : Env,
  R x4 w
def Flaws_FnHeapBack (t0 t1 : Value) (w : World) (R : VW) : Prop :=
  lenT t0 fun t16 =>
  binT .gtr t16 (.int .i64 1048576) fun t17 =>
  condT t17
  (R (.bool true) w)
  (lenT t1 fun t20 =>
  binT .gtr t20 (.int .i64 1048576) fun t21 =>
  condT t21
  (R (.bool true) w)
  (clT PR 62 [t0] w fun t25 w1 =>
  extT t25 0 fun t26 =>
  extT t25 1 fun t27 =>
  allocT 42 #[(.slice none 0 0)] w1 fun t5 w2 =>
  allocT 57 #[(.slice none 0 0), (.int .i64 0), (.int .i64 0), (.slice none 0 0), (.int .i64 0)] w2 fun t6 w3 =>
  stsT 1 t5 t26 w3 fun w4 =>
  stsT 5 t6 t27 w4 fun w5 =>
  lenT t1 fun t29 =>
  fadT 0 t6 fun t30 =>
  ldT t30 w5 fun t31 =>
  lenT t31 fun t32 =>
  opT PR (Builtin.max_ #[3, 3] 3 #[t32, (.int .i64 1)]) w5 fun t33 w6 =>
  binT .rem t29 t33 fun t34 =>
  ldsT 1 t5 (w6.drew) fun t36 =>
  ldsT 5 t6 (w6.drew) fun t37 =>
  bldT #[(.int .i64 0), (.int .i64 0)] [(0, 1, (.int .i64 15))] fun t38 =>
  arT [(42, #[(.slice none 0 0)]), (57, #[(.slice none 0 0), (.int .i64 0), (.int .i64 0), (.slice none 0 0), (.int .i64 0)])] (w6.drew) [none, none] fun w7 s8 =>
  clT PR 64 [(.int .i64 7)] w7 fun t39 w9 =>
  (ldsT 5 t6 w9 fun u => u = t37) ∧
  (ldsT 1 t5 w9 fun u => u = t36) ∧
  arT [(42, #[(.slice none 0 0)]), (57, #[(.slice none 0 0), (.int .i64 0), (.int .i64 0), (.slice none 0 0), (.int .i64 0)])] w9 s8 fun w10 s11 =>
  clT PR 69 [t34] w10 fun t41 w12 =>
  (ldsT 5 t6 w12 fun u => u = t37) ∧
  (ldsT 1 t5 w12 fun u => u = t36) ∧
  arT [(42, #[(.slice none 0 0)]), (57, #[(.slice none 0 0), (.int .i64 0), (.int .i64 0), (.slice none 0 0), (.int .i64 0)])] w12 s11 fun w13 s14 =>
  clT PR 64 [(.int .i64 44)] w13 fun t42 w15 =>
  (ldsT 5 t6 w15 fun u => u = t37) ∧
  (ldsT 1 t5 w15 fun u => u = t36) ∧
  arT [(42, #[(.slice none 0 0)]), (57, #[(.slice none 0 0), (.int .i64 0), (.int .i64 0), (.slice none 0 0), (.int .i64 0)])] w15 s14 fun w16 s17 =>
  bslT 78 3 2 #[(.int .i64 0), (.int .i64 0)] [(0, 2, t39), (2, 2, t41), (4, 2, t42)] w16 fun t43 w18 =>
  (ldsT 5 t6 w18 fun u => u = t37) ∧
  (ldsT 1 t5 w18 fun u => u = t36) ∧
  arT [(42, #[(.slice none 0 0)]), (57, #[(.slice none 0 0), (.int .i64 0), (.int .i64 0), (.slice none 0 0), (.int .i64 0)])] w18 s17 fun w19 s20 =>
  clT PR 63 [t36, t37, t38, t43] w19 fun t44 w21 =>
  extT t44 0 fun t45 =>
  extT t44 1 fun t46 =>
  extT t44 2 fun t47 =>
  arT [(42, #[(.slice none 0 0)]), (57, #[(.slice none 0 0), (.int .i64 0), (.int .i64 0), (.slice none 0 0), (.int .i64 0)])] w21 s20 fun w22 s23 =>
  ndT s23 0 fun b24 =>
  ndT s23 1 fun b25 =>
  stsT 1 (.pointer (some ⟨b24, 0, none⟩)) t45 w22 fun w26 =>
  arT [(42, #[(.slice none 0 0)]), (57, #[(.slice none 0 0), (.int .i64 0), (.int .i64 0), (.slice none 0 0), (.int .i64 0)])] w26 s23 fun w27 s28 =>
  ndT s28 0 fun b29 =>
  ndT s28 1 fun b30 =>
  stsT 5 (.pointer (some ⟨b30, 0, none⟩)) t46 w27 fun w31 =>
  arT [(42, #[(.slice none 0 0)]), (57, #[(.slice none 0 0), (.int .i64 0), (.int .i64 0), (.slice none 0 0), (.int .i64 0)])] w31 s28 fun w32 s33 =>
  ndT s33 0 fun b34 =>
  ndT s33 1 fun b35 =>
  arT [(42, #[(.slice none 0 0)]), (57, #[(.slice none 0 0), (.int .i64 0), (.int .i64 0), (.slice none 0 0), (.int .i64 0)])] w32 s33 fun w36 s37 =>
  ndT s37 0 fun b38 =>
  ndT s37 1 fun b39 =>
  ldsT 1 (.pointer (some ⟨b38, 0, none⟩)) w36 fun t49 =>
  ldsT 5 (.pointer (some ⟨b39, 0, none⟩)) w36 fun t50 =>
  clT PR 65 [t49, t50] w36 fun t51 w40 =>
  extT t51 0 fun t52 =>
  extT t51 1 fun t53 =>
  allocT 57 #[(.slice none 0 0), (.int .i64 0), (.int .i64 0), (.slice none 0 0), (.int .i64 0)] w40 fun t11 w41 =>
  stsT 5 t11 t52 w41 fun w42 =>
  notT t47 fun t55 =>
  condT t55
  (ldsT 1 (.pointer (some ⟨b38, 0, none⟩)) w42 fun t57 =>
  ldsT 5 (.pointer (some ⟨b39, 0, none⟩)) w42 fun t58 =>
  clT PR 66 [t57, t58] w42 fun t59 w43 =>
  opT PR (do eqGuard .eql 4 (.tmp 56) (.tmp 59) t53 t59; binOp .eql 4 t53 t59) w43 fun t60 w44 =>
  R t60 w44)
  (ldsT 5 (.pointer (some ⟨b39, 0, none⟩)) (w42.drew) fun t61 =>
  arT [(57, #[(.slice none 0 0), (.int .i64 0), (.int .i64 0), (.slice none 0 0), (.int .i64 0)])] (w42.drew) [none] fun w45 s46 =>
  clT PR 64 [(.int .i64 7)] w45 fun t62 w47 =>
  (ldsT 5 (.pointer (some ⟨b39, 0, none⟩)) w47 fun u => u = t61) ∧
  arT [(57, #[(.slice none 0 0), (.int .i64 0), (.int .i64 0), (.slice none 0 0), (.int .i64 0)])] w47 s46 fun w48 s49 =>
  bslT 78 1 2 #[(.int .i64 0), (.int .i64 0)] [(0, 2, t62)] w48 fun t63 w50 =>
  (ldsT 5 (.pointer (some ⟨b39, 0, none⟩)) w50 fun u => u = t61) ∧
  arT [(57, #[(.slice none 0 0), (.int .i64 0), (.int .i64 0), (.slice none 0 0), (.int .i64 0)])] w50 s49 fun w51 s52 =>
  clT PR 68 [t61, t63] w51 fun t64 w53 =>
  arT [(57, #[(.slice none 0 0), (.int .i64 0), (.int .i64 0), (.slice none 0 0), (.int .i64 0)])] w53 s52 fun w54 s55 =>
  ndT s55 0 fun b56 =>
  stsT 5 (.pointer (some ⟨b56, 0, none⟩)) t64 w54 fun w57 =>
  arT [(57, #[(.slice none 0 0), (.int .i64 0), (.int .i64 0), (.slice none 0 0), (.int .i64 0)])] w57 s55 fun w58 s59 =>
  ndT s59 0 fun b60 =>
  fadT 0 (.pointer (some ⟨b60, 0, none⟩)) fun t65 =>
  ldT t65 w58 fun t66 =>
  ixaT 6 t66 t34 fun t68 =>
  fadT 5 t68 fun t69 =>
  ldT t69 w58 fun t70 =>
  condT t70
  (fadT 4 (.pointer (some ⟨b60, 0, none⟩)) fun t71 =>
  stT t71 (.int .i64 2) w58 fun w61 =>
  condT t53
  (ldsT 5 t11 w61 fun t74 =>
  ldsT 5 (.pointer (some ⟨b60, 0, none⟩)) w61 fun t75 =>
  clT PR 67 [t74, t75] w61 fun t76 w62 =>
  R t76 w62)
  (R (.bool false) w61))
  (loopT (fun s w Kn Kb Kr => Flaws_FnHeapBack.l1 (s.headD undef) (s.tail.headD undef) (s.tail.tail.headD undef) (s.tail.tail.tail.headD undef) (s.tail.tail.tail.tail.headD undef) w Kn Kb Kr) [(.bool false), t34, t11, t53, (.pointer (some ⟨b60, 0, none⟩))] w58
  (fun s w => Flaws_FnHeapBack.k2 (s.headD undef) (s.tail.headD undef) (s.tail.tail.headD undef) (s.tail.tail.tail.headD undef) (s.tail.tail.tail.tail.headD undef) w R)
  (fun s w => Flaws_FnHeapBack.r3 (s.headD undef) (s.tail.headD undef) (s.tail.tail.headD undef) (s.tail.tail.tail.headD undef) (s.tail.tail.tail.tail.headD undef) w R)))))
def Flaws_FnHeapBack.H : Hints := {draw := fun i => match i with | 5 => { T := [0, 0, 0, 0, 0, 24, 56, 120, 255, 511, 1023, 1023, 1023, 0, 0, 26623, 61439, 131071], F := [13, 14] } | 9 => { T := [0, 0, 2, 7, 0, 31], F := [4] } | 19 => { T := [0, 1, 0, 0, 8, 0, 56, 120, 248, 0, 512, 2040, 4095, 8191, 16383] } | _ => {}, loop := fun i => match i with | 13 => some (0, [4, 7, 11, 12, 13]) | _ => none}
theorem Flaws_FnHeapBack.eq (t0 t1 : Value) : trF PR CX Flaws_FnHeapBack.H Tryz.f15 [t0, t1] = Flaws_FnHeapBack t0 t1 := by kernel_rfl
theorem Flaws_FnHeapBack.cl {t0 t1 : Value} {w : World} {R : VW} (h : Flaws_FnHeapBack t0 t1 w R) : clT PR 15 [t0, t1] w R := cl_of_tr (H := Flaws_FnHeapBack.H) ctxOk Tryz.func15 rfl (by rw [Flaws_FnHeapBack.eq]; exact h)
end Go.PT
