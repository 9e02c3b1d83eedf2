/- The reflected texts of functions of the program, and that a call keeps what its text says. -/
import Derived.Test.YtegddhbcglghdaaGreatCtx
set_option linter.unusedVariables false
set_option maxRecDepth 100000
namespace Go.PT
open Go.Proofs
/-! function 18: laws_FnHeapPoke -/
def Flaws_FnHeapPoke.j1 (x12 x13 x14 : Value) (w : World) (R : VW) : Prop := ∀ _ : Env,
  condT x13
  (ldsT 5 x12 w fun t90 =>
  ldsT 5 x14 w fun t91 =>
  clT PR 67 [t90, t91] w fun t92 w63 =>
  R t92 w63)
  (R (.bool false) w)
def Flaws_FnHeapPoke (t0 t1 : Value) (w : World) (R : VW) : Prop :=
  lenT t0 fun t16 =>
  binT .gtr t16 (.int .i64 1048576) fun t17 =>
  condT t17
  (R (.bool true) w)
  (lenT t1 fun t20 =>
  binT .gtr t20 (.int .i64 1048576) fun t21 =>
  condT t21
  (R (.bool true) w)
  (clT PR 62 [t0] w fun t25 w1 =>
  extT t25 0 fun t26 =>
  extT t25 1 fun t27 =>
  allocT 42 #[(.slice none 0 0)] w1 fun t5 w2 =>
  allocT 57 #[(.slice none 0 0), (.int .i64 0), (.int .i64 0), (.slice none 0 0), (.int .i64 0)] w2 fun t6 w3 =>
  stsT 1 t5 t26 w3 fun w4 =>
  stsT 5 t6 t27 w4 fun w5 =>
  lenT t1 fun t29 =>
  fadT 0 t6 fun t30 =>
  ldT t30 w5 fun t31 =>
  lenT t31 fun t32 =>
  opT PR (Builtin.max_ #[3, 3] 3 #[t32, (.int .i64 1)]) w5 fun t33 w6 =>
  binT .rem t29 t33 fun t34 =>
  lenT t1 fun t36 =>
  binT .quo t36 (.int .i64 2) fun t37 =>
  binT .rem t37 (.int .i64 4) fun t38 =>
  ldsT 1 t5 (w6.drew) fun t40 =>
  ldsT 5 t6 (w6.drew) fun t41 =>
  bldT #[(.int .i64 0), (.int .i64 0)] [(0, 1, (.int .i64 14)), (1, 1, t38)] fun t43 =>
  arT [(42, #[(.slice none 0 0)]), (57, #[(.slice none 0 0), (.int .i64 0), (.int .i64 0), (.slice none 0 0), (.int .i64 0)])] (w6.drew) [none, none] fun w7 s8 =>
  clT PR 64 [(.int .i64 7)] w7 fun t44 w9 =>
  (ldsT 5 t6 w9 fun u => u = t41) ∧
  (ldsT 1 t5 w9 fun u => u = t40) ∧
  arT [(42, #[(.slice none 0 0)]), (57, #[(.slice none 0 0), (.int .i64 0), (.int .i64 0), (.slice none 0 0), (.int .i64 0)])] w9 s8 fun w10 s11 =>
  clT PR 69 [t34] w10 fun t46 w12 =>
  (ldsT 5 t6 w12 fun u => u = t41) ∧
  (ldsT 1 t5 w12 fun u => u = t40) ∧
  arT [(42, #[(.slice none 0 0)]), (57, #[(.slice none 0 0), (.int .i64 0), (.int .i64 0), (.slice none 0 0), (.int .i64 0)])] w12 s11 fun w13 s14 =>
  clT PR 64 [(.int .i64 44)] w13 fun t47 w15 =>
  (ldsT 5 t6 w15 fun u => u = t41) ∧
  (ldsT 1 t5 w15 fun u => u = t40) ∧
  arT [(42, #[(.slice none 0 0)]), (57, #[(.slice none 0 0), (.int .i64 0), (.int .i64 0), (.slice none 0 0), (.int .i64 0)])] w15 s14 fun w16 s17 =>
  bslT 78 3 2 #[(.int .i64 0), (.int .i64 0)] [(0, 2, t44), (2, 2, t46), (4, 2, t47)] w16 fun t48 w18 =>
  (ldsT 5 t6 w18 fun u => u = t41) ∧
  (ldsT 1 t5 w18 fun u => u = t40) ∧
  arT [(42, #[(.slice none 0 0)]), (57, #[(.slice none 0 0), (.int .i64 0), (.int .i64 0), (.slice none 0 0), (.int .i64 0)])] w18 s17 fun w19 s20 =>
  clT PR 63 [t40, t41, t43, t48] w19 fun t49 w21 =>
  extT t49 0 fun t50 =>
  extT t49 1 fun t51 =>
  extT t49 2 fun t52 =>
  arT [(42, #[(.slice none 0 0)]), (57, #[(.slice none 0 0), (.int .i64 0), (.int .i64 0), (.slice none 0 0), (.int .i64 0)])] w21 s20 fun w22 s23 =>
  ndT s23 0 fun b24 =>
  ndT s23 1 fun b25 =>
  stsT 1 (.pointer (some ⟨b24, 0, none⟩)) t50 w22 fun w26 =>
  arT [(42, #[(.slice none 0 0)]), (57, #[(.slice none 0 0), (.int .i64 0), (.int .i64 0), (.slice none 0 0), (.int .i64 0)])] w26 s23 fun w27 s28 =>
  ndT s28 0 fun b29 =>
  ndT s28 1 fun b30 =>
  stsT 5 (.pointer (some ⟨b30, 0, none⟩)) t51 w27 fun w31 =>
  arT [(42, #[(.slice none 0 0)]), (57, #[(.slice none 0 0), (.int .i64 0), (.int .i64 0), (.slice none 0 0), (.int .i64 0)])] w31 s28 fun w32 s33 =>
  ndT s33 0 fun b34 =>
  ndT s33 1 fun b35 =>
  arT [(42, #[(.slice none 0 0)]), (57, #[(.slice none 0 0), (.int .i64 0), (.int .i64 0), (.slice none 0 0), (.int .i64 0)])] w32 s33 fun w36 s37 =>
  ndT s37 0 fun b38 =>
  ndT s37 1 fun b39 =>
  ldsT 1 (.pointer (some ⟨b38, 0, none⟩)) w36 fun t54 =>
  ldsT 5 (.pointer (some ⟨b39, 0, none⟩)) w36 fun t55 =>
  clT PR 65 [t54, t55] w36 fun t56 w40 =>
  extT t56 0 fun t57 =>
  extT t56 1 fun t58 =>
  allocT 57 #[(.slice none 0 0), (.int .i64 0), (.int .i64 0), (.slice none 0 0), (.int .i64 0)] w40 fun t12 w41 =>
  stsT 5 t12 t57 w41 fun w42 =>
  notT t52 fun t60 =>
  condT t60
  (ldsT 1 (.pointer (some ⟨b38, 0, none⟩)) w42 fun t62 =>
  ldsT 5 (.pointer (some ⟨b39, 0, none⟩)) w42 fun t63 =>
  clT PR 66 [t62, t63] w42 fun t64 w43 =>
  opT PR (do eqGuard .eql 4 (.tmp 61) (.tmp 64) t58 t64; binOp .eql 4 t58 t64) w43 fun t65 w44 =>
  R t65 w44)
  (ldsT 5 (.pointer (some ⟨b39, 0, none⟩)) (w42.drew) fun t66 =>
  arT [(57, #[(.slice none 0 0), (.int .i64 0), (.int .i64 0), (.slice none 0 0), (.int .i64 0)])] (w42.drew) [none] fun w45 s46 =>
  clT PR 64 [(.int .i64 7)] w45 fun t67 w47 =>
  (ldsT 5 (.pointer (some ⟨b39, 0, none⟩)) w47 fun u => u = t66) ∧
  arT [(57, #[(.slice none 0 0), (.int .i64 0), (.int .i64 0), (.slice none 0 0), (.int .i64 0)])] w47 s46 fun w48 s49 =>
  bslT 78 1 2 #[(.int .i64 0), (.int .i64 0)] [(0, 2, t67)] w48 fun t68 w50 =>
  (ldsT 5 (.pointer (some ⟨b39, 0, none⟩)) w50 fun u => u = t66) ∧
  arT [(57, #[(.slice none 0 0), (.int .i64 0), (.int .i64 0), (.slice none 0 0), (.int .i64 0)])] w50 s49 fun w51 s52 =>
  clT PR 68 [t66, t68] w51 fun t69 w53 =>
  arT [(57, #[(.slice none 0 0), (.int .i64 0), (.int .i64 0), (.slice none 0 0), (.int .i64 0)])] w53 s52 fun w54 s55 =>
  ndT s55 0 fun b56 =>
  stsT 5 (.pointer (some ⟨b56, 0, none⟩)) t69 w54 fun w57 =>
  arT [(57, #[(.slice none 0 0), (.int .i64 0), (.int .i64 0), (.slice none 0 0), (.int .i64 0)])] w57 s55 fun w58 s59 =>
  ndT s59 0 fun b60 =>
  fadT 0 (.pointer (some ⟨b60, 0, none⟩)) fun t71 =>
  ldT t71 w58 fun t72 =>
  ixaT 6 t72 t34 fun t74 =>
  fadT 2 t74 fun t75 =>
  ldT t75 w58 fun t76 =>
  lenT t76 fun t77 =>
  binT .lss t38 t77 fun t78 =>
  condT t78
  (fadT 0 (.pointer (some ⟨b60, 0, none⟩)) fun t79 =>
  ldT t79 (w58.drew) fun t80 =>
  ixaT 6 t80 t34 fun t82 =>
  fadT 2 t82 fun t83 =>
  ldT t83 (w58.drew) fun t84 =>
  clT PR 64 [(.int .i64 44)] (w58.drew) fun t86 w61 =>
  (ldT t83 w61 fun u => u = t84) ∧
  (ldT t79 w61 fun u => u = t80) ∧
  ixaT 2 t84 t38 fun t87 =>
  stsT 2 t87 t86 w61 fun w62 =>
  Flaws_FnHeapPoke.j1 t12 t58 (.pointer (some ⟨b60, 0, none⟩)) w62 R)
  (Flaws_FnHeapPoke.j1 t12 t58 (.pointer (some ⟨b60, 0, none⟩)) w58 R))))
def Flaws_FnHeapPoke.H : Hints := {draw := fun i => match i with | 6 => { T := [0, 0, 0, 4, 0, 0, 48, 112, 240, 511, 1023, 2047, 2047, 2047, 0, 0, 53247, 122879, 262143], F := [14, 15] } | 10 => { T := [0, 0, 2, 7, 0, 31], F := [4] } | 12 => { T := [0, 1, 0, 7, 15, 31, 0, 0, 255, 511] } | _ => {}, join := fun i => match i with | 78 => some [12, 13, 14] | _ => none}
theorem Flaws_FnHeapPoke.eq (t0 t1 : Value) : trF PR CX Flaws_FnHeapPoke.H Tryz.f18 [t0, t1] = Flaws_FnHeapPoke t0 t1 := by kernel_rfl
theorem Flaws_FnHeapPoke.cl {t0 t1 : Value} {w : World} {R : VW} (h : Flaws_FnHeapPoke t0 t1 w R) : clT PR 18 [t0, t1] w R := cl_of_tr (H := Flaws_FnHeapPoke.H) ctxOk Tryz.func18 rfl (by rw [Flaws_FnHeapPoke.eq]; exact h)
end Go.PT
