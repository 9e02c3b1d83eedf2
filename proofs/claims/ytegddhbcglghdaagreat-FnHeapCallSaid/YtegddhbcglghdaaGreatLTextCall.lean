/- The reflected texts of functions of the program, and that a call keeps what its text says. -/
import Derived.Test.YtegddhbcglghdaaGreatCtx
set_option linter.unusedVariables false
set_option maxRecDepth 100000
namespace Go.PT
open Go.Proofs
/-! function 7: laws_FnHeapCall -/
def Flaws_FnHeapCall.l1 (x4 x11 x12 x13 x15 x16 : Value) (w : World) (Kn Kb Kr : LW) : Prop := ∀ _ : Env,
  fadT 2 x16 fun t96 =>
  ldT t96 w fun t97 =>
  lenT t97 fun t98 =>
  fadT 1 x13 fun t99 =>
  ldT t99 w fun t100 =>
  binT .lss t98 t100 fun t101 =>
  condT t101
  (fadT 2 x16 fun t102 =>
  ldT t102 w fun t103 =>
  bldT #[(.int .i64 0), (.int .i64 0)] [] fun t104 =>
  bslT 78 1 2 #[(.int .i64 0), (.int .i64 0)] [(0, 2, t104)] w fun t105 w81 =>
  opT PR (Builtin.append_ #[35, 35] 35 #[t103, t105]) w81 fun t106 w82 =>
  fadT 2 x16 fun t107 =>
  stT t107 t106 w82 fun w83 =>
  Kn [x4, x11, x12, x13, x15, x16] w83)
  (Kb [x4, x11, x12, x13, x15, x16] w)
def Flaws_FnHeapCall.k2 (x4 x11 x12 x13 x15 x16 : Value) (w : World) (R : VW) : Prop := ∀ _ : Env,
  fadT 0 x15 fun t108 =>
  ldT t108 w fun t109 =>
  ldsT 6 x16 w fun t110 =>
  bslT 89 1 6 #[(.int .i64 0), (.int .i64 0), (.slice none 0 0), (.slice none 0 0), (.int .i64 0), (.bool false)] [(0, 6, t110)] w fun t111 w84 =>
  opT PR (Builtin.append_ #[55, 55] 55 #[t109, t111]) w84 fun t112 w85 =>
  fadT 0 x15 fun t113 =>
  stT t113 t112 w85 fun w86 =>
  fadT 0 x15 fun t114 =>
  ldT t114 w86 fun t115 =>
  lenT t115 fun t116 =>
  binT .sub t116 (.int .i64 1) fun t117 =>
  fadT 1 x15 fun t118 =>
  stT t118 t117 w86 fun w87 =>
  fadT 2 x15 fun t119 =>
  ldT t119 w87 fun t120 =>
  binT .add t120 (.int .i64 1) fun t121 =>
  fadT 2 x15 fun t122 =>
  stT t122 t121 w87 fun w88 =>
  condT x12
  (ldsT 5 x11 w88 fun t125 =>
  ldsT 5 x15 w88 fun t126 =>
  clT PR 67 [t125, t126] w88 fun t127 w89 =>
  R t127 w89)
  (R (.bool false) w88)
def Flaws_FnHeapCall.r3 (x4 x11 x12 x13 x15 x16 : Value) (w : World) (R : VW) : Prop := ∀ _ : Env,
  R x4 w
def Flaws_FnHeapCall.l4 (x4 x11 x12 x13 x15 x16 : Value) (w : World) (Kn Kb Kr : LW) : Prop := ∀ _ : Env,
  fadT 2 x16 fun t96 =>
  ldT t96 w fun t97 =>
  lenT t97 fun t98 =>
  fadT 1 x13 fun t99 =>
  ldT t99 w fun t100 =>
  binT .lss t98 t100 fun t101 =>
  condT t101
  (fadT 2 x16 fun t102 =>
  ldT t102 w fun t103 =>
  bldT #[(.int .i64 0), (.int .i64 0)] [] fun t104 =>
  bslT 78 1 2 #[(.int .i64 0), (.int .i64 0)] [(0, 2, t104)] w fun t105 w104 =>
  opT PR (Builtin.append_ #[35, 35] 35 #[t103, t105]) w104 fun t106 w105 =>
  fadT 2 x16 fun t107 =>
  stT t107 t106 w105 fun w106 =>
  Kn [x4, x11, x12, x13, x15, x16] w106)
  (Kb [x4, x11, x12, x13, x15, x16] w)
def Flaws_FnHeapCall.k5 (x4 x11 x12 x13 x15 x16 : Value) (w : World) (R : VW) : Prop := ∀ _ : Env,
  fadT 0 x15 fun t108 =>
  ldT t108 w fun t109 =>
  ldsT 6 x16 w fun t110 =>
  bslT 89 1 6 #[(.int .i64 0), (.int .i64 0), (.slice none 0 0), (.slice none 0 0), (.int .i64 0), (.bool false)] [(0, 6, t110)] w fun t111 w107 =>
  opT PR (Builtin.append_ #[55, 55] 55 #[t109, t111]) w107 fun t112 w108 =>
  fadT 0 x15 fun t113 =>
  stT t113 t112 w108 fun w109 =>
  fadT 0 x15 fun t114 =>
  ldT t114 w109 fun t115 =>
  lenT t115 fun t116 =>
  binT .sub t116 (.int .i64 1) fun t117 =>
  fadT 1 x15 fun t118 =>
  stT t118 t117 w109 fun w110 =>
  fadT 2 x15 fun t119 =>
  ldT t119 w110 fun t120 =>
  binT .add t120 (.int .i64 1) fun t121 =>
  fadT 2 x15 fun t122 =>
  stT t122 t121 w110 fun w111 =>
  condT x12
  (ldsT 5 x11 w111 fun t125 =>
  ldsT 5 x15 w111 fun t126 =>
  clT PR 67 [t125, t126] w111 fun t127 w112 =>
  R t127 w112)
  (R (.bool false) w111)
def Flaws_FnHeapCall (t0 t1 : Value) (w : World) (R : VW) : Prop :=
  lenT t0 fun t18 =>
  binT .gtr t18 (.int .i64 1048576) fun t19 =>
  condT t19
  (R (.bool true) w)
  (lenT t1 fun t22 =>
  binT .gtr t22 (.int .i64 1048576) fun t23 =>
  condT t23
  (R (.bool true) w)
  (clT PR 62 [t0] w fun t27 w1 =>
  extT t27 0 fun t28 =>
  extT t27 1 fun t29 =>
  allocT 42 #[(.slice none 0 0)] w1 fun t5 w2 =>
  allocT 57 #[(.slice none 0 0), (.int .i64 0), (.int .i64 0), (.slice none 0 0), (.int .i64 0)] w2 fun t6 w3 =>
  stsT 1 t5 t28 w3 fun w4 =>
  stsT 5 t6 t29 w4 fun w5 =>
  lenT t1 fun t31 =>
  binT .rem t31 (.int .i64 4) fun t32 =>
  ldsT 1 t5 (w5.drew) fun t34 =>
  ldsT 5 t6 (w5.drew) fun t35 =>
  bldT #[(.int .i64 0), (.int .i64 0)] [(0, 1, (.int .i64 9)), (1, 1, t32)] fun t37 =>
  arT [(42, #[(.slice none 0 0)]), (57, #[(.slice none 0 0), (.int .i64 0), (.int .i64 0), (.slice none 0 0), (.int .i64 0)])] (w5.drew) [none, none] fun w6 s7 =>
  clT PR 64 [(.int .i64 7)] w6 fun t38 w8 =>
  (ldsT 5 t6 w8 fun u => u = t35) ∧
  (ldsT 1 t5 w8 fun u => u = t34) ∧
  arT [(42, #[(.slice none 0 0)]), (57, #[(.slice none 0 0), (.int .i64 0), (.int .i64 0), (.slice none 0 0), (.int .i64 0)])] w8 s7 fun w9 s10 =>
  clT PR 64 [(.int .i64 8)] w9 fun t39 w11 =>
  (ldsT 5 t6 w11 fun u => u = t35) ∧
  (ldsT 1 t5 w11 fun u => u = t34) ∧
  arT [(42, #[(.slice none 0 0)]), (57, #[(.slice none 0 0), (.int .i64 0), (.int .i64 0), (.slice none 0 0), (.int .i64 0)])] w11 s10 fun w12 s13 =>
  clT PR 64 [(.int .i64 9)] w12 fun t40 w14 =>
  (ldsT 5 t6 w14 fun u => u = t35) ∧
  (ldsT 1 t5 w14 fun u => u = t34) ∧
  arT [(42, #[(.slice none 0 0)]), (57, #[(.slice none 0 0), (.int .i64 0), (.int .i64 0), (.slice none 0 0), (.int .i64 0)])] w14 s13 fun w15 s16 =>
  bslT 78 3 2 #[(.int .i64 0), (.int .i64 0)] [(0, 2, t38), (2, 2, t39), (4, 2, t40)] w15 fun t41 w17 =>
  (ldsT 5 t6 w17 fun u => u = t35) ∧
  (ldsT 1 t5 w17 fun u => u = t34) ∧
  arT [(42, #[(.slice none 0 0)]), (57, #[(.slice none 0 0), (.int .i64 0), (.int .i64 0), (.slice none 0 0), (.int .i64 0)])] w17 s16 fun w18 s19 =>
  clT PR 63 [t34, t35, t37, t41] w18 fun t42 w20 =>
  extT t42 0 fun t43 =>
  extT t42 1 fun t44 =>
  extT t42 2 fun t45 =>
  arT [(42, #[(.slice none 0 0)]), (57, #[(.slice none 0 0), (.int .i64 0), (.int .i64 0), (.slice none 0 0), (.int .i64 0)])] w20 s19 fun w21 s22 =>
  ndT s22 0 fun b23 =>
  ndT s22 1 fun b24 =>
  stsT 1 (.pointer (some ⟨b23, 0, none⟩)) t43 w21 fun w25 =>
  arT [(42, #[(.slice none 0 0)]), (57, #[(.slice none 0 0), (.int .i64 0), (.int .i64 0), (.slice none 0 0), (.int .i64 0)])] w25 s22 fun w26 s27 =>
  ndT s27 0 fun b28 =>
  ndT s27 1 fun b29 =>
  stsT 5 (.pointer (some ⟨b29, 0, none⟩)) t44 w26 fun w30 =>
  arT [(42, #[(.slice none 0 0)]), (57, #[(.slice none 0 0), (.int .i64 0), (.int .i64 0), (.slice none 0 0), (.int .i64 0)])] w30 s27 fun w31 s32 =>
  ndT s32 0 fun b33 =>
  ndT s32 1 fun b34 =>
  arT [(42, #[(.slice none 0 0)]), (57, #[(.slice none 0 0), (.int .i64 0), (.int .i64 0), (.slice none 0 0), (.int .i64 0)])] w31 s32 fun w35 s36 =>
  ndT s36 0 fun b37 =>
  ndT s36 1 fun b38 =>
  ldsT 1 (.pointer (some ⟨b37, 0, none⟩)) w35 fun t47 =>
  ldsT 5 (.pointer (some ⟨b38, 0, none⟩)) w35 fun t48 =>
  clT PR 65 [t47, t48] w35 fun t49 w39 =>
  extT t49 0 fun t50 =>
  extT t49 1 fun t51 =>
  allocT 57 #[(.slice none 0 0), (.int .i64 0), (.int .i64 0), (.slice none 0 0), (.int .i64 0)] w39 fun t11 w40 =>
  stsT 5 t11 t50 w40 fun w41 =>
  notT t45 fun t53 =>
  condT t53
  (ldsT 1 (.pointer (some ⟨b37, 0, none⟩)) w41 fun t55 =>
  ldsT 5 (.pointer (some ⟨b38, 0, none⟩)) w41 fun t56 =>
  clT PR 66 [t55, t56] w41 fun t57 w42 =>
  opT PR (do eqGuard .eql 4 (.tmp 54) (.tmp 57) t51 t57; binOp .eql 4 t51 t57) w42 fun t58 w43 =>
  R t58 w43)
  (fadT 0 (.pointer (some ⟨b37, 0, none⟩)) fun t59 =>
  ldT t59 w41 fun t60 =>
  ixaT 3 t60 t32 fun t62 =>
  ldsT 3 t62 w41 fun t63 =>
  allocT 87 #[(.int .i64 0), (.int .i64 0), (.slice none 0 0)] w41 fun t13 w44 =>
  stsT 3 t13 t63 w44 fun w45 =>
  clT PR 64 [(.int .i64 7)] w45 fun t64 w46 =>
  clT PR 64 [(.int .i64 8)] w46 fun t65 w47 =>
  clT PR 64 [(.int .i64 9)] w47 fun t66 w48 =>
  bslT 78 3 2 #[(.int .i64 0), (.int .i64 0)] [(0, 2, t64), (2, 2, t65), (4, 2, t66)] w48 fun t67 w49 =>
  ldsT 5 (.pointer (some ⟨b38, 0, none⟩)) (w49.drew) fun t68 =>
  fadT 0 t13 fun t70 =>
  ldT t70 (w49.drew) fun t71 =>
  binT .sub (.int .i64 3) t71 fun t72 =>
  arT [(57, #[(.slice none 0 0), (.int .i64 0), (.int .i64 0), (.slice none 0 0), (.int .i64 0)])] (w49.drew) [none] fun w50 s51 =>
  opT PR (Instr.sliceAt 35 t67 none (some t72) none) w50 fun t73 w52 =>
  (ldsT 5 (.pointer (some ⟨b38, 0, none⟩)) w52 fun u => u = t68) ∧
  arT [(57, #[(.slice none 0 0), (.int .i64 0), (.int .i64 0), (.slice none 0 0), (.int .i64 0)])] w52 s51 fun w53 s54 =>
  clT PR 68 [t68, t73] w53 fun t74 w55 =>
  arT [(57, #[(.slice none 0 0), (.int .i64 0), (.int .i64 0), (.slice none 0 0), (.int .i64 0)])] w55 s54 fun w56 s57 =>
  ndT s57 0 fun b58 =>
  stsT 5 (.pointer (some ⟨b58, 0, none⟩)) t74 w56 fun w59 =>
  arT [(57, #[(.slice none 0 0), (.int .i64 0), (.int .i64 0), (.slice none 0 0), (.int .i64 0)])] w59 s57 fun w60 s61 =>
  ndT s61 0 fun b62 =>
  fadT 2 (.pointer (some ⟨b38, 0, none⟩)) fun t75 =>
  ldT t75 w60 fun t76 =>
  binT .eql t76 (.int .i64 30) fun t77 =>
  condT t77
  (fadT 4 (.pointer (some ⟨b62, 0, none⟩)) fun t78 =>
  stT t78 (.int .i64 3) w60 fun w63 =>
  condT t51
  (ldsT 5 t11 w63 fun t81 =>
  ldsT 5 (.pointer (some ⟨b62, 0, none⟩)) w63 fun t82 =>
  clT PR 67 [t81, t82] w63 fun t83 w64 =>
  R t83 w64)
  (R (.bool false) w63))
  (fadT 1 (.pointer (some ⟨b38, 0, none⟩)) fun t86 =>
  ldT t86 (w60.drew) fun t87 =>
  fadT 0 t13 fun t90 =>
  ldT t90 (w60.drew) fun t91 =>
  binT .sub (.int .i64 3) t91 fun t92 =>
  arT [(89, #[(.int .i64 0), (.int .i64 0), (.slice none 0 0), (.slice none 0 0), (.int .i64 0), (.bool false)])] (w60.drew) [none] fun w65 s66 =>
  (bslT 78 0 2 #[] [] w65 fun t88 w67 =>
  (ldT t90 w67 fun u => u = t91) ∧
  (ldT t86 w67 fun u => u = t87) ∧
  arT [(89, #[(.int .i64 0), (.int .i64 0), (.slice none 0 0), (.slice none 0 0), (.int .i64 0), (.bool false)])] w67 s66 fun w68 s69 =>
  opT PR (Instr.sliceAt 35 t67 (some t92) none none) w68 fun t93 w70 =>
  (ldT t86 w70 fun u => u = t87) ∧
  arT [(89, #[(.int .i64 0), (.int .i64 0), (.slice none 0 0), (.slice none 0 0), (.int .i64 0), (.bool false)])] w70 s69 fun w71 s72 =>
  opT PR (Builtin.append_ #[35, 35] 35 #[t88, t93]) w71 fun t94 w73 =>
  (ldT t86 w73 fun u => u = t87) ∧
  bldT #[(.int .i64 0), (.int .i64 0), (.slice none 0 0), (.slice none 0 0), (.int .i64 0), (.bool false)] [(0, 1, t32), (4, 1, t87), (2, 1, t94)] fun t95 =>
  arT [(89, #[(.int .i64 0), (.int .i64 0), (.slice none 0 0), (.slice none 0 0), (.int .i64 0), (.bool false)])] w73 s72 fun w74 s75 =>
  ndT s75 0 fun b76 =>
  stsT 6 (.pointer (some ⟨b76, 0, none⟩)) t95 w74 fun w77 =>
  arT [(89, #[(.int .i64 0), (.int .i64 0), (.slice none 0 0), (.slice none 0 0), (.int .i64 0), (.bool false)])] w77 s75 fun w78 s79 =>
  ndT s79 0 fun b80 =>
  loopT (fun s w Kn Kb Kr => Flaws_FnHeapCall.l1 (s.headD undef) (s.tail.headD undef) (s.tail.tail.headD undef) (s.tail.tail.tail.headD undef) (s.tail.tail.tail.tail.headD undef) (s.tail.tail.tail.tail.tail.headD undef) w Kn Kb Kr) [(.bool false), t11, t51, t13, (.pointer (some ⟨b62, 0, none⟩)), (.pointer (some ⟨b80, 0, none⟩))] w78
  (fun s w => Flaws_FnHeapCall.k2 (s.headD undef) (s.tail.headD undef) (s.tail.tail.headD undef) (s.tail.tail.tail.headD undef) (s.tail.tail.tail.tail.headD undef) (s.tail.tail.tail.tail.tail.headD undef) w R)
  (fun s w => Flaws_FnHeapCall.r3 (s.headD undef) (s.tail.headD undef) (s.tail.tail.headD undef) (s.tail.tail.tail.headD undef) (s.tail.tail.tail.tail.headD undef) (s.tail.tail.tail.tail.tail.headD undef) w R)) ∧
  (opT PR (Instr.sliceAt 35 t67 (some t92) none none) w65 fun t93 w90 =>
  (ldT t86 w90 fun u => u = t87) ∧
  arT [(89, #[(.int .i64 0), (.int .i64 0), (.slice none 0 0), (.slice none 0 0), (.int .i64 0), (.bool false)])] w90 s66 fun w91 s92 =>
  bslT 78 0 2 #[] [] w91 fun t88 w93 =>
  (ldT t90 w93 fun u => u = t91) ∧
  (ldT t86 w93 fun u => u = t87) ∧
  arT [(89, #[(.int .i64 0), (.int .i64 0), (.slice none 0 0), (.slice none 0 0), (.int .i64 0), (.bool false)])] w93 s92 fun w94 s95 =>
  opT PR (Builtin.append_ #[35, 35] 35 #[t88, t93]) w94 fun t94 w96 =>
  (ldT t86 w96 fun u => u = t87) ∧
  bldT #[(.int .i64 0), (.int .i64 0), (.slice none 0 0), (.slice none 0 0), (.int .i64 0), (.bool false)] [(0, 1, t32), (4, 1, t87), (2, 1, t94)] fun t95 =>
  arT [(89, #[(.int .i64 0), (.int .i64 0), (.slice none 0 0), (.slice none 0 0), (.int .i64 0), (.bool false)])] w96 s95 fun w97 s98 =>
  ndT s98 0 fun b99 =>
  stsT 6 (.pointer (some ⟨b99, 0, none⟩)) t95 w97 fun w100 =>
  arT [(89, #[(.int .i64 0), (.int .i64 0), (.slice none 0 0), (.slice none 0 0), (.int .i64 0), (.bool false)])] w100 s98 fun w101 s102 =>
  ndT s102 0 fun b103 =>
  loopT (fun s w Kn Kb Kr => Flaws_FnHeapCall.l4 (s.headD undef) (s.tail.headD undef) (s.tail.tail.headD undef) (s.tail.tail.tail.headD undef) (s.tail.tail.tail.tail.headD undef) (s.tail.tail.tail.tail.tail.headD undef) w Kn Kb Kr) [(.bool false), t11, t51, t13, (.pointer (some ⟨b62, 0, none⟩)), (.pointer (some ⟨b103, 0, none⟩))] w101
  (fun s w => Flaws_FnHeapCall.k5 (s.headD undef) (s.tail.headD undef) (s.tail.tail.headD undef) (s.tail.tail.tail.headD undef) (s.tail.tail.tail.tail.headD undef) (s.tail.tail.tail.tail.tail.headD undef) w R)
  (fun s w => Flaws_FnHeapCall.r3 (s.headD undef) (s.tail.headD undef) (s.tail.tail.headD undef) (s.tail.tail.tail.headD undef) (s.tail.tail.tail.tail.headD undef) (s.tail.tail.tail.tail.tail.headD undef) w R))))))
def Flaws_FnHeapCall.H : Hints := {draw := fun i => match i with | 5 => { T := [0, 0, 0, 4, 0, 16, 48, 112, 255, 511, 1023, 1023, 1023, 0, 0, 26623, 61439, 131071], F := [13, 14] } | 11 => { T := [0, 0, 0, 4, 12, 30, 63, 0, 255], F := [7] } | 15 => { T := [0, 0, 2, 0, 0, 0, 32, 96, 240, 504, 1023, 0, 4095], F := [11] } | _ => {}, loop := fun i => match i with | 16 => some (0, [4, 11, 12, 13, 15, 16]) | _ => none}
theorem Flaws_FnHeapCall.eq (t0 t1 : Value) : trF PR CX Flaws_FnHeapCall.H Tryz.f7 [t0, t1] = Flaws_FnHeapCall t0 t1 := by kernel_rfl
theorem Flaws_FnHeapCall.cl {t0 t1 : Value} {w : World} {R : VW} (h : Flaws_FnHeapCall t0 t1 w R) : clT PR 7 [t0, t1] w R := cl_of_tr (H := Flaws_FnHeapCall.H) ctxOk Tryz.func7 rfl (by rw [Flaws_FnHeapCall.eq]; exact h)
end Go.PT
