/- The reflected texts of functions of the program, and that a call keeps what its text says. -/
import Derived.Test.YtegddhbcglghdaaGreatCtx
set_option linter.unusedVariables false
set_option maxRecDepth 100000
namespace Go.PT
open Go.Proofs
/-! function 13: laws_FnHeapSet -/
def Flaws_FnHeapSet (t0 t1 : Value) (w : World) (R : VW) : Prop :=
  lenT t0 fun t14 =>
  binT .gtr t14 (.int .i64 1048576) fun t15 =>
  condT t15
  (R (.bool true) w)
  (lenT t1 fun t18 =>
  binT .gtr t18 (.int .i64 1048576) fun t19 =>
  condT t19
  (R (.bool true) w)
  (clT PR 62 [t0] w fun t23 w1 =>
  extT t23 0 fun t24 =>
  extT t23 1 fun t25 =>
  allocT 42 #[(.slice none 0 0)] w1 fun t5 w2 =>
  allocT 57 #[(.slice none 0 0), (.int .i64 0), (.int .i64 0), (.slice none 0 0), (.int .i64 0)] w2 fun t6 w3 =>
  stsT 1 t5 t24 w3 fun w4 =>
  stsT 5 t6 t25 w4 fun w5 =>
  ldsT 1 t5 (w5.drew) fun t27 =>
  ldsT 5 t6 (w5.drew) fun t28 =>
  lenT t1 fun t30 =>
  binT .rem t30 (.int .i64 4) fun t31 =>
  bldT #[(.int .i64 0), (.int .i64 0)] [(0, 1, (.int .i64 3)), (1, 1, t31)] fun t32 =>
  lenT t1 fun t35 =>
  binT .rem t35 (.int .i64 50) fun t36 =>
  arT [(42, #[(.slice none 0 0)]), (57, #[(.slice none 0 0), (.int .i64 0), (.int .i64 0), (.slice none 0 0), (.int .i64 0)])] (w5.drew) [none, none] fun w6 s7 =>
  clT PR 64 [(.int .i64 7)] w6 fun t33 w8 =>
  (ldsT 5 t6 w8 fun u => u = t28) ∧
  (ldsT 1 t5 w8 fun u => u = t27) ∧
  arT [(42, #[(.slice none 0 0)]), (57, #[(.slice none 0 0), (.int .i64 0), (.int .i64 0), (.slice none 0 0), (.int .i64 0)])] w8 s7 fun w9 s10 =>
  clT PR 64 [t36] w9 fun t37 w11 =>
  (ldsT 5 t6 w11 fun u => u = t28) ∧
  (ldsT 1 t5 w11 fun u => u = t27) ∧
  arT [(42, #[(.slice none 0 0)]), (57, #[(.slice none 0 0), (.int .i64 0), (.int .i64 0), (.slice none 0 0), (.int .i64 0)])] w11 s10 fun w12 s13 =>
  bslT 78 2 2 #[(.int .i64 0), (.int .i64 0)] [(0, 2, t33), (2, 2, t37)] w12 fun t38 w14 =>
  (ldsT 5 t6 w14 fun u => u = t28) ∧
  (ldsT 1 t5 w14 fun u => u = t27) ∧
  arT [(42, #[(.slice none 0 0)]), (57, #[(.slice none 0 0), (.int .i64 0), (.int .i64 0), (.slice none 0 0), (.int .i64 0)])] w14 s13 fun w15 s16 =>
  clT PR 63 [t27, t28, t32, t38] w15 fun t39 w17 =>
  extT t39 0 fun t40 =>
  extT t39 1 fun t41 =>
  extT t39 2 fun t42 =>
  arT [(42, #[(.slice none 0 0)]), (57, #[(.slice none 0 0), (.int .i64 0), (.int .i64 0), (.slice none 0 0), (.int .i64 0)])] w17 s16 fun w18 s19 =>
  ndT s19 0 fun b20 =>
  ndT s19 1 fun b21 =>
  stsT 1 (.pointer (some ⟨b20, 0, none⟩)) t40 w18 fun w22 =>
  arT [(42, #[(.slice none 0 0)]), (57, #[(.slice none 0 0), (.int .i64 0), (.int .i64 0), (.slice none 0 0), (.int .i64 0)])] w22 s19 fun w23 s24 =>
  ndT s24 0 fun b25 =>
  ndT s24 1 fun b26 =>
  stsT 5 (.pointer (some ⟨b26, 0, none⟩)) t41 w23 fun w27 =>
  arT [(42, #[(.slice none 0 0)]), (57, #[(.slice none 0 0), (.int .i64 0), (.int .i64 0), (.slice none 0 0), (.int .i64 0)])] w27 s24 fun w28 s29 =>
  ndT s29 0 fun b30 =>
  ndT s29 1 fun b31 =>
  arT [(42, #[(.slice none 0 0)]), (57, #[(.slice none 0 0), (.int .i64 0), (.int .i64 0), (.slice none 0 0), (.int .i64 0)])] w28 s29 fun w32 s33 =>
  ndT s33 0 fun b34 =>
  ndT s33 1 fun b35 =>
  ldsT 1 (.pointer (some ⟨b34, 0, none⟩)) w32 fun t44 =>
  ldsT 5 (.pointer (some ⟨b35, 0, none⟩)) w32 fun t45 =>
  clT PR 65 [t44, t45] w32 fun t46 w36 =>
  extT t46 0 fun t47 =>
  extT t46 1 fun t48 =>
  allocT 57 #[(.slice none 0 0), (.int .i64 0), (.int .i64 0), (.slice none 0 0), (.int .i64 0)] w36 fun t10 w37 =>
  stsT 5 t10 t47 w37 fun w38 =>
  notT t42 fun t50 =>
  condT t50
  (ldsT 1 (.pointer (some ⟨b34, 0, none⟩)) w38 fun t52 =>
  ldsT 5 (.pointer (some ⟨b35, 0, none⟩)) w38 fun t53 =>
  clT PR 66 [t52, t53] w38 fun t54 w39 =>
  opT PR (do eqGuard .eql 4 (.tmp 51) (.tmp 54) t48 t54; binOp .eql 4 t48 t54) w39 fun t55 w40 =>
  R t55 w40)
  (ldsT 5 (.pointer (some ⟨b35, 0, none⟩)) (w38.drew) fun t56 =>
  arT [(57, #[(.slice none 0 0), (.int .i64 0), (.int .i64 0), (.slice none 0 0), (.int .i64 0)])] (w38.drew) [none] fun w41 s42 =>
  clT PR 64 [(.int .i64 7)] w41 fun t57 w43 =>
  (ldsT 5 (.pointer (some ⟨b35, 0, none⟩)) w43 fun u => u = t56) ∧
  arT [(57, #[(.slice none 0 0), (.int .i64 0), (.int .i64 0), (.slice none 0 0), (.int .i64 0)])] w43 s42 fun w44 s45 =>
  bslT 78 1 2 #[(.int .i64 0), (.int .i64 0)] [(0, 2, t57)] w44 fun t58 w46 =>
  (ldsT 5 (.pointer (some ⟨b35, 0, none⟩)) w46 fun u => u = t56) ∧
  arT [(57, #[(.slice none 0 0), (.int .i64 0), (.int .i64 0), (.slice none 0 0), (.int .i64 0)])] w46 s45 fun w47 s48 =>
  clT PR 68 [t56, t58] w47 fun t59 w49 =>
  arT [(57, #[(.slice none 0 0), (.int .i64 0), (.int .i64 0), (.slice none 0 0), (.int .i64 0)])] w49 s48 fun w50 s51 =>
  ndT s51 0 fun b52 =>
  stsT 5 (.pointer (some ⟨b52, 0, none⟩)) t59 w50 fun w53 =>
  arT [(57, #[(.slice none 0 0), (.int .i64 0), (.int .i64 0), (.slice none 0 0), (.int .i64 0)])] w53 s51 fun w54 s55 =>
  ndT s55 0 fun b56 =>
  fadT 0 (.pointer (some ⟨b56, 0, none⟩)) fun t60 =>
  ldT t60 (w54.drew) fun t61 =>
  fadT 1 (.pointer (some ⟨b56, 0, none⟩)) fun t62 =>
  ldT t62 (w54.drew) fun t63 =>
  ixaT 6 t61 t63 fun t64 =>
  fadT 2 t64 fun t65 =>
  ldT t65 (w54.drew) fun t66 =>
  lenT t1 fun t68 =>
  binT .rem t68 (.int .i64 4) fun t69 =>
  lenT t1 fun t71 =>
  binT .rem t71 (.int .i64 50) fun t72 =>
  clT PR 64 [t72] (w54.drew) fun t73 w57 =>
  (ldT t65 w57 fun u => u = t66) ∧
  (ldT t62 w57 fun u => u = t63) ∧
  (ldT t60 w57 fun u => u = t61) ∧
  ixaT 2 t66 t69 fun t74 =>
  stsT 2 t74 t73 w57 fun w58 =>
  condT t48
  (ldsT 5 t10 w58 fun t77 =>
  ldsT 5 (.pointer (some ⟨b56, 0, none⟩)) w58 fun t78 =>
  clT PR 67 [t77, t78] w58 fun t79 w59 =>
  R t79 w59)
  (R (.bool false) w58))))
def Flaws_FnHeapSet.H : Hints := {draw := fun i => match i with | 4 => { T := [0, 0, 0, 4, 12, 28, 0, 0, 128, 384, 960, 1984, 4095, 8191, 16383, 16383, 16383, 0, 0, 425983, 983039, 2097151], F := [17, 18] } | 8 => { T := [0, 0, 2, 7, 0, 31], F := [4] } | 9 => { T := [0, 1, 0, 4, 15, 31, 63, 0, 128, 384, 0, 1024, 3072, 7168, 16383, 32767] } | _ => {}}
theorem Flaws_FnHeapSet.eq (t0 t1 : Value) : trF PR CX Flaws_FnHeapSet.H Tryz.f13 [t0, t1] = Flaws_FnHeapSet t0 t1 := by kernel_rfl
theorem Flaws_FnHeapSet.cl {t0 t1 : Value} {w : World} {R : VW} (h : Flaws_FnHeapSet t0 t1 w R) : clT PR 13 [t0, t1] w R := cl_of_tr (H := Flaws_FnHeapSet.H) ctxOk Tryz.func13 rfl (by rw [Flaws_FnHeapSet.eq]; exact h)
end Go.PT
