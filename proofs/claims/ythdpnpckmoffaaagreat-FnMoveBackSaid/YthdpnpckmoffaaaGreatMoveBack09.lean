/- What the claim of FnMoveBack leans on, part 10 of 16. -/
import Derived.Test.YthdpnpckmoffaaaGreatMoveBack00
import Derived.Test.YthdpnpckmoffaaaGreatMoveBack01
import Derived.Test.YthdpnpckmoffaaaGreatMoveBack02
import Derived.Test.YthdpnpckmoffaaaGreatMoveBack03
import Derived.Test.YthdpnpckmoffaaaGreatMoveBack04
import Derived.Test.YthdpnpckmoffaaaGreatMoveBack05
import Derived.Test.YthdpnpckmoffaaaGreatMoveBack06
import Derived.Test.YthdpnpckmoffaaaGreatMoveBack07
import Derived.Test.YthdpnpckmoffaaaGreatMoveBack08
set_option linter.unusedVariables false
set_option linter.unusedSimpArgs false
set_option linter.unusedSectionVars false
set_option maxRecDepth 100000
namespace Go.PT
def inB (a b c : Int) : Bool := decide (b ≤ a) && decide (a ≤ c)
theorem inB_t {a b c : Int} (h1 : b ≤ a) (h2 : a ≤ c) : inB a b c = true := by unfold inB; simp [h1, h2]
theorem inB_f {a b c : Int} (h : ¬ (b ≤ a ∧ a ≤ c)) : inB a b c = false := by unfold inB; simp; omega
theorem inB_iff {a b c : Int} : inB a b c = true ↔ b ≤ a ∧ a ≤ c := by unfold inB; simp
theorem condIn_of {a b c : Int} {A B : Prop} (h1 : b ≤ a ∧ a ≤ c → A) (h2 : ¬ (b ≤ a ∧ a ≤ c) → B) : condT (.bool (inB a b c)) A B := cond_of (fun h => h1 (inB_iff.mp h)) (fun h => h2 (fun h' => by rw [inB_t h'.1 h'.2] at h; cases h))
theorem condNIn_of {a b c : Int} {A B : Prop} (h1 : ¬ (b ≤ a ∧ a ≤ c) → A) (h2 : b ≤ a ∧ a ≤ c → B) : condT (.bool (!inB a b c)) A B := condN_of (fun h => h1 (fun h' => by rw [inB_t h'.1 h'.2] at h; cases h)) (fun h => h2 (inB_iff.mp h))
abbrev V := Int × Int
structure Meth where
  args : Int
  temps : Int
  ops : List (Int × Int)
structure Cl where
  method : Int
  pc : Int
  temps : List V
  stack : List V
  sender : Int
  dead : Bool
structure Hp where
  calls : List Cl
  now : Int
  born : Int
  said : List V
  code : Int
abbrev Pg := List Meth
def meth0 : Meth := ⟨0, 0, []⟩
def call0 : Cl := ⟨0, 0, [], [], 0, false⟩
def methAt (p : Pg) (i : Int) : Meth := p.getD i.toNat meth0
def callAt (cs : List Cl) (i : Int) : Cl := cs.getD i.toNat call0
def kPair : Kd (Int × Int) := Kd.flat 2 (fun t => [.int .i64 t.1, .int .i64 t.2]) (fun _ => rfl) (fun _ v hv => by simp at hv; rcases hv with rfl | rfl <;> rfl)
def kInt : Kd Int := Kd.flat 1 (fun n => [.int .i64 n]) (fun _ => rfl) (fun _ v hv => by simp at hv; subst hv; rfl)
def kMeth : Kd Meth where
  sz := 3
  K := fun ok w p m cs => ∃ u, cs = [.int .i64 m.args, .int .i64 m.temps, u] ∧ Sl kPair ok w (p ++ [2]) m.ops u
  len := fun h => by obtain ⟨u, rfl, _⟩ := h; rfl
  one := fun h v hv => by
    obtain ⟨u, rfl, hu⟩ := h
    simp at hv
    rcases hv with rfl | rfl | rfl
    · rfl
    · rfl
    · exact hu.one
  frame := fun h hf => by
    obtain ⟨u, rfl, hu⟩ := h
    refine ⟨u, rfl, hu.frame (fun r b m ho => ?_)⟩
    rw [List.append_assoc] at ho ⊢
    exact hf _ b m ho
def kCall : Kd Cl where
  sz := 6
  K := fun ok w p c cs => ∃ u v, cs = [.int .i64 c.method, .int .i64 c.pc, u, v, .int .i64 c.sender, .bool c.dead] ∧ Sl kPair ok w (p ++ [2]) c.temps u ∧ Sl kPair ok w (p ++ [3]) c.stack v
  len := fun h => by obtain ⟨u, v, rfl, _⟩ := h; rfl
  one := fun h v hv => by
    obtain ⟨u, u', rfl, hu, hu'⟩ := h
    simp at hv
    rcases hv with rfl | rfl | rfl | rfl | rfl | rfl
    · rfl
    · rfl
    · exact hu.one
    · exact hu'.one
    · rfl
    · rfl
  frame := fun h hf => by
    obtain ⟨u, u', rfl, hu, hu'⟩ := h
    refine ⟨u, u', rfl, hu.frame (fun r b m ho => ?_), hu'.frame (fun r b m ho => ?_)⟩ <;>
    · rw [List.append_assoc] at ho ⊢
      exact hf _ b m ho
def valOk (n : Int) (v : V) : Bool := if v.1 = 0 then decide (v.2 = 0) else if v.1 = 1 then inB v.2 0 999 else if v.1 = 2 then inB v.2 0 (n - 1) else false
def valsOk (n : Int) (l : List V) : Bool := l.all (valOk n)
def form (p : Pg) (n : Int) (c : Cl) : Bool :=
  inB c.method 0 (p.length - 1) && (inB c.pc 0 (methAt p c.method).ops.length && (decide ((c.temps.length : Int) = (methAt p c.method).temps) && (decide ((c.stack.length : Int) ≤ 6) &&
    (inB c.sender (-1) (n - 1) && (valsOk n c.temps && (valsOk n c.stack && (!c.dead || (decide (c.sender = -1) && decide ((c.stack.length : Int) = 0)))))))))
def saidOk (p : Pg) (l : List V) : Bool := l.all (fun v => valOk p.length v)
theorem methAt_of {p : Pg} {i : Nat} {m : Meth} (h : p[i]? = some m) : p.getD i meth0 = m := by rw [List.getD_eq_getElem?_getD, h]; rfl
theorem callAt_of {cs : List Cl} {i : Nat} {c : Cl} (h : cs[i]? = some c) : cs.getD i call0 = c := by rw [List.getD_eq_getElem?_getD, h]; rfl
theorem meth_ix {w : World} {q : List Nat} {p : Pg} {v : Value} {i : Int} {k : Value → Prop} (h : Sl kMeth Any w q p v) (h0 : 0 ≤ i) (h1 : i < p.length)
    (hk : ∀ b o u, Cells w b o [.int .i64 (methAt p i).args, .int .i64 (methAt p i).temps, u] → Sl kPair Any w [] (methAt p i).ops u → k (.pointer (some ⟨b, o, none⟩))) : ixaT 3 v (.int .i64 i) k := by
  refine h.ix_of rfl h0 h1 (fun x b o es hx hK hc => ?_)
  obtain ⟨u, rfl, hu⟩ := hK
  have e : methAt p i = x := methAt_of hx
  refine hk b o u ?_ ?_
  · rw [e]; exact hc
  · rw [e]; exact hu.re
theorem call_ix {w : World} {q : List Nat} {cs : List Cl} {v : Value} {i : Int} {k : Value → Prop} (h : Sl kCall Any w q cs v) (h0 : 0 ≤ i) (h1 : i < cs.length)
    (hk : ∀ b o u u', Cells w b o [.int .i64 (callAt cs i).method, .int .i64 (callAt cs i).pc, u, u', .int .i64 (callAt cs i).sender, .bool (callAt cs i).dead] → Sl kPair Any w [] (callAt cs i).temps u → Sl kPair Any w [] (callAt cs i).stack u' →
      k (.pointer (some ⟨b, o, none⟩))) : ixaT 6 v (.int .i64 i) k := by
  refine h.ix_of rfl h0 h1 (fun x b o es hx hK hc => ?_)
  obtain ⟨u, u', rfl, hu, hu'⟩ := hK
  have e : callAt cs i = x := callAt_of hx
  refine hk b o u u' ?_ ?_ ?_
  · rw [e]; exact hc
  · rw [e]; exact hu.re
  · rw [e]; exact hu'.re
def pairAt (l : List (Int × Int)) (i : Int) : Int × Int := l.getD i.toNat (0, 0)
theorem pairAt_of {l : List (Int × Int)} {i : Nat} {x : Int × Int} (h : l[i]? = some x) : l.getD i (0, 0) = x := by rw [List.getD_eq_getElem?_getD, h]; rfl
theorem pair_ix {w : World} {q : List Nat} {l : List (Int × Int)} {v : Value} {i : Int} {k : Value → Prop} (h : Sl kPair Any w q l v) (h0 : 0 ≤ i) (h1 : i < l.length)
    (hk : ∀ b o, Cells w b o [.int .i64 (pairAt l i).1, .int .i64 (pairAt l i).2] → k (.pointer (some ⟨b, o, none⟩))) : ixaT 2 v (.int .i64 i) k := by
  refine h.ix_of rfl h0 h1 (fun x b o es hx hK hc => ?_)
  have hes : es = [.int .i64 x.1, .int .i64 x.2] := hK
  subst hes
  have e : pairAt l i = x := pairAt_of hx
  refine hk b o ?_
  rw [e]; exact hc
def intAt (l : List Int) (i : Int) : Int := l.getD i.toNat 0
theorem intAt_of {l : List Int} {i : Nat} {x : Int} (h : l[i]? = some x) : l.getD i 0 = x := by rw [List.getD_eq_getElem?_getD, h]; rfl
theorem int_ix {w : World} {q : List Nat} {l : List Int} {v : Value} {i : Int} {k : Value → Prop} (h : Sl kInt Any w q l v) (h0 : 0 ≤ i) (h1 : i < l.length)
    (hk : ∀ b o, w.cell? ⟨b, o, none⟩ = some (.int .i64 (intAt l i)) → k (.pointer (some ⟨b, o, none⟩))) : ixaT 1 v (.int .i64 i) k := by
  refine h.ix_of rfl h0 h1 (fun x b o es hx hK hc => ?_)
  have hes : es = [.int .i64 x] := hK
  subst hes
  have e : intAt l i = x := intAt_of hx
  refine hk b o ?_
  rw [e]; simpa using hc.at 0 rfl
end Go.PT
namespace Go.PT
open Go.Proofs
def Fspec_HeapOk.l1 (x2 x3 x4 x5 x6 x7 : Value) (w : World) (Kn Kb Kr : LW) : Prop := ∀ _ : Env,
  binT .lss x7 x5 fun t58 =>
  condT t58
  (ldsT 1 x2 (w.drew) fun t61 =>
  fadT 0 x3 fun t62 =>
  ldT t62 (w.drew) fun t63 =>
  ixaT 6 t63 x7 fun t65 =>
  ldsT 6 t65 (w.drew) fun t66 =>
  clT PR 165 [t61, t66, x5] (w.drew) fun t68 w9 =>
  notT t68 fun t69 =>
  condT t69
  (Kr [x2, x3, (.bool false), x5, x6, x7] w9)
  (fadT 0 x3 fun t70 =>
  ldT t70 w9 fun t71 =>
  ixaT 6 t71 x7 fun t73 =>
  fadT 5 t73 fun t74 =>
  ldT t74 w9 fun t75 =>
  notT t75 fun t76 =>
  condT t76
  (binT .add x6 (.int .i64 1) fun t78 =>
  binT .add x7 (.int .i64 1) fun t60 =>
  Kn [x2, x3, x4, x5, t78, t60] w9)
  (binT .add x7 (.int .i64 1) fun t60 =>
  Kn [x2, x3, x4, x5, x6, t60] w9)))
  (Kb [x2, x3, x4, x5, x6, x7] w)
def Fspec_HeapOk.k2 (x2 x3 x4 x5 x6 x7 : Value) (w : World) (R : VW) : Prop := ∀ _ : Env,
  fadT 1 x3 fun t79 =>
  ldT t79 w fun t80 =>
  binT .lss t80 (.int .i64 0) fun t81 =>
  condT t81
  (ldsT 5 x3 w fun t93 =>
  clT PR 166 [t93] w fun t94 w10 =>
  lenT t94 fun t95 =>
  binT .eql t95 x6 fun t97 =>
  condT t97
  (ldsT 5 x3 w10 fun t100 =>
  clT PR 167 [t100] w10 fun t101 w11 =>
  R t101 w11)
  (R (.bool false) w10))
  (fadT 0 x3 fun t83 =>
  ldT t83 w fun t84 =>
  fadT 1 x3 fun t85 =>
  ldT t85 w fun t86 =>
  ixaT 6 t84 t86 fun t87 =>
  fadT 5 t87 fun t88 =>
  ldT t88 w fun t89 =>
  notT t89 fun t90 =>
  condT t90
  (ldsT 5 x3 w fun t93 =>
  clT PR 166 [t93] w fun t94 w12 =>
  lenT t94 fun t95 =>
  binT .eql t95 x6 fun t97 =>
  condT t97
  (ldsT 5 x3 w12 fun t100 =>
  clT PR 167 [t100] w12 fun t101 w13 =>
  R t101 w13)
  (R (.bool false) w12))
  (R (.bool false) w))
def Fspec_HeapOk.r3 (x2 x3 x4 x5 x6 x7 : Value) (w : World) (R : VW) : Prop := ∀ _ : Env,
  R x4 w
def Fspec_HeapOk (t0 t1 : Value) (w : World) (R : VW) : Prop :=
  boxT 42 t0 w fun t2 w1 =>
  boxT 57 t1 w1 fun t3 w2 =>
  fadT 0 t3 fun t8 =>
  ldT t8 w2 fun t9 =>
  lenT t9 fun t10 =>
  ldsT 1 t2 w2 fun t11 =>
  clT PR 127 [t11] w2 fun t12 w3 =>
  notT t12 fun t13 =>
  condT t13
  (R (.bool false) w3)
  (fadT 1 t3 fun t15 =>
  ldT t15 w3 fun t16 =>
  binT .sub t10 (.int .i64 1) fun t18 =>
  clT PR 128 [t16, (.int .i64 (-1)), t18] w3 fun t19 w4 =>
  notT t19 fun t20 =>
  condT t20
  (R (.bool false) w4)
  (fadT 2 t3 fun t23 =>
  ldT t23 w4 fun t24 =>
  clT PR 128 [t24, (.int .i64 1), (.int .i64 30)] w4 fun t25 w5 =>
  notT t25 fun t26 =>
  condT t26
  (R (.bool false) w5)
  (fadT 2 t3 fun t30 =>
  ldT t30 w5 fun t31 =>
  binT .gtr t10 t31 fun t32 =>
  condT t32
  (R (.bool false) w5)
  (fadT 4 t3 fun t35 =>
  ldT t35 w5 fun t36 =>
  clT PR 128 [t36, (.int .i64 0), (.int .i64 3)] w5 fun t37 w6 =>
  notT t37 fun t38 =>
  condT t38
  (R (.bool false) w6)
  (ldsT 1 t2 w6 fun t41 =>
  fadT 3 t3 fun t42 =>
  ldT t42 w6 fun t43 =>
  clT PR 141 [t41, t43] w6 fun t44 w7 =>
  notT t44 fun t45 =>
  condT t45
  (R (.bool false) w7)
  (fadT 4 t3 fun t48 =>
  ldT t48 w7 fun t49 =>
  binT .eql t49 (.int .i64 1) fun t50 =>
  fadT 1 t3 fun t51 =>
  ldT t51 w7 fun t52 =>
  binT .lss t52 (.int .i64 0) fun t53 =>
  opT PR (do eqGuard .neq 4 (.tmp 50) (.tmp 53) t50 t53; binOp .neq 4 t50 t53) w7 fun t54 w8 =>
  condT t54
  (R (.bool false) w8)
  (loopT (fun s w Kn Kb Kr => Fspec_HeapOk.l1 (s.headD undef) (s.tail.headD undef) (s.tail.tail.headD undef) (s.tail.tail.tail.headD undef) (s.tail.tail.tail.tail.headD undef) (s.tail.tail.tail.tail.tail.headD undef) w Kn Kb Kr) [t2, t3, (.bool false), t10, (.int .i64 0), (.int .i64 0)] w8
  (fun s w => Fspec_HeapOk.k2 (s.headD undef) (s.tail.headD undef) (s.tail.tail.headD undef) (s.tail.tail.tail.headD undef) (s.tail.tail.tail.tail.headD undef) (s.tail.tail.tail.tail.tail.headD undef) w R)
  (fun s w => Fspec_HeapOk.r3 (s.headD undef) (s.tail.headD undef) (s.tail.tail.headD undef) (s.tail.tail.tail.headD undef) (s.tail.tail.tail.tail.headD undef) (s.tail.tail.tail.tail.tail.headD undef) w R))))))))
def Fspec_HeapOk.H : Hints := {draw := fun i => match i with | 8 => { T := [0, 0, 2, 0, 14, 30, 0, 127, 255] } | _ => {}, loop := fun i => match i with | 6 => some (0, [2, 3, 4, 5, 6, 7]) | _ => none}
theorem Fspec_HeapOk.eq (t0 t1 : Value) : trF PR CX Fspec_HeapOk.H Tryz.f92 [t0, t1] = Fspec_HeapOk t0 t1 := by kernel_rfl
theorem Fspec_HeapOk.cl {t0 t1 : Value} {w : World} {R : VW} (h : Fspec_HeapOk t0 t1 w R) : clT PR 92 [t0, t1] w R := cl_of_tr (H := Fspec_HeapOk.H) ctxOk Tryz.func92 rfl (by rw [Fspec_HeapOk.eq]; exact h)
def Fspec_l6Open (t0 : Value) (w : World) (R : VW) : Prop :=
  lenT t0 fun t4 =>
  binT .gtr t4 (.int .i64 2000) fun t5 =>
  condT t5
  (opT PR (Instr.sliceAt 62 t0 none (some (.int .i64 2000)) none) w fun t7 w1 =>
  bldT #[(.slice none 0 0), (.int .i64 0)] [(0, 1, t7)] fun t9 =>
  boxT 217 t9 w1 fun t10 w2 =>
  R t10 w2)
  (bldT #[(.slice none 0 0), (.int .i64 0)] [(0, 1, t0)] fun t9 =>
  boxT 217 t9 w fun t10 w3 =>
  R t10 w3)
def Fspec_l6Open.H : Hints := {}
theorem Fspec_l6Open.eq (t0 : Value) : trF PR CX Fspec_l6Open.H Tryz.f103 [t0] = Fspec_l6Open t0 := by kernel_rfl
theorem Fspec_l6Open.cl {t0 : Value} {w : World} {R : VW} (h : Fspec_l6Open t0 w R) : clT PR 103 [t0] w R := cl_of_tr (H := Fspec_l6Open.H) ctxOk Tryz.func103 rfl (by rw [Fspec_l6Open.eq]; exact h)
def Fimpl_in (t0 t1 t2 : Value) (w : World) (R : VW) : Prop :=
  binT .geq t0 t1 fun t9 =>
  condT t9
  (binT .leq t0 t2 fun t13 =>
  R t13 w)
  (R (.bool false) w)
def Fimpl_in.H : Hints := {}
theorem Fimpl_in.eq (t0 t1 t2 : Value) : trF PR CX Fimpl_in.H Tryz.f121 [t0, t1, t2] = Fimpl_in t0 t1 t2 := by kernel_rfl
theorem Fimpl_in.cl {t0 t1 t2 : Value} {w : World} {R : VW} (h : Fimpl_in t0 t1 t2 w R) : clT PR 121 [t0, t1, t2] w R := cl_of_tr (H := Fimpl_in.H) ctxOk Tryz.func121 rfl (by rw [Fimpl_in.eq]; exact h)
def Fspec_ProgOk.l1 (x1 x2 x3 : Value) (w : World) (Kn Kb Kr : LW) : Prop := ∀ _ : Env,
  fadT 0 x1 fun t18 =>
  ldT t18 w fun t19 =>
  lenT t19 fun t20 =>
  binT .lss x3 t20 fun t21 =>
  condT t21
  (ldsT 1 x1 (w.drew) fun t24 =>
  fadT 0 x1 fun t25 =>
  ldT t25 (w.drew) fun t26 =>
  ixaT 3 t26 x3 fun t28 =>
  ldsT 3 t28 (w.drew) fun t29 =>
  clT PR 187 [t24, t29] (w.drew) fun t30 w3 =>
  notT t30 fun t31 =>
  condT t31
  (Kr [x1, (.bool false), x3] w3)
  (binT .add x3 (.int .i64 1) fun t23 =>
  Kn [x1, x2, t23] w3))
  (Kb [x1, x2, x3] w)
def Fspec_ProgOk.k2 (x1 x2 x3 : Value) (w : World) (R : VW) : Prop := ∀ _ : Env,
  R (.bool true) w
def Fspec_ProgOk.r3 (x1 x2 x3 : Value) (w : World) (R : VW) : Prop := ∀ _ : Env,
  R x2 w
def Fspec_ProgOk (t0 : Value) (w : World) (R : VW) : Prop :=
  boxT 42 t0 w fun t1 w1 =>
  fadT 0 t1 fun t4 =>
  ldT t4 w1 fun t5 =>
  lenT t5 fun t6 =>
  clT PR 128 [t6, (.int .i64 1), (.int .i64 4)] w1 fun t7 w2 =>
  notT t7 fun t8 =>
  condT t8
  (R (.bool false) w2)
  (fadT 0 t1 fun t10 =>
  ldT t10 w2 fun t11 =>
  ixaT 3 t11 (.int .i64 0) fun t12 =>
  fadT 0 t12 fun t13 =>
  ldT t13 w2 fun t14 =>
  binT .neq t14 (.int .i64 0) fun t15 =>
  condT t15
  (R (.bool false) w2)
  (loopT (fun s w Kn Kb Kr => Fspec_ProgOk.l1 (s.headD undef) (s.tail.headD undef) (s.tail.tail.headD undef) w Kn Kb Kr) [t1, (.bool false), (.int .i64 0)] w2
  (fun s w => Fspec_ProgOk.k2 (s.headD undef) (s.tail.headD undef) (s.tail.tail.headD undef) w R)
  (fun s w => Fspec_ProgOk.r3 (s.headD undef) (s.tail.headD undef) (s.tail.tail.headD undef) w R)))
def Fspec_ProgOk.H : Hints := {draw := fun i => match i with | 6 => { T := [0, 0, 2, 0, 14, 30, 63, 127] } | _ => {}, loop := fun i => match i with | 4 => some (0, [1, 2, 3]) | _ => none}
theorem Fspec_ProgOk.eq (t0 : Value) : trF PR CX Fspec_ProgOk.H Tryz.f127 [t0] = Fspec_ProgOk t0 := by kernel_rfl
theorem Fspec_ProgOk.cl {t0 : Value} {w : World} {R : VW} (h : Fspec_ProgOk t0 w R) : clT PR 127 [t0] w R := cl_of_tr (H := Fspec_ProgOk.H) ctxOk Tryz.func127 rfl (by rw [Fspec_ProgOk.eq]; exact h)
def Fspec_l6In (t0 t1 t2 : Value) (w : World) (R : VW) : Prop :=
  binT .geq t0 t1 fun t9 =>
  condT t9
  (binT .leq t0 t2 fun t13 =>
  R t13 w)
  (R (.bool false) w)
def Fspec_l6In.H : Hints := {}
theorem Fspec_l6In.eq (t0 t1 t2 : Value) : trF PR CX Fspec_l6In.H Tryz.f128 [t0, t1, t2] = Fspec_l6In t0 t1 t2 := by kernel_rfl
theorem Fspec_l6In.cl {t0 t1 t2 : Value} {w : World} {R : VW} (h : Fspec_l6In t0 t1 t2 w R) : clT PR 128 [t0, t1, t2] w R := cl_of_tr (H := Fspec_l6In.H) ctxOk Tryz.func128 rfl (by rw [Fspec_l6In.eq]; exact h)
def Fspec_l6Rd_pick (t0 t1 : Value) (w : World) (R : VW) : Prop :=
  nilT PR t0 fun t9 =>
  fadT 1 t9 fun t10 =>
  ldT t10 w fun t11 =>
  binT .add t11 (.int .i64 1) fun t12 =>
  nilT PR t0 fun t13 =>
  fadT 1 t13 fun t14 =>
  stT t14 t12 w fun w1 =>
  binT .lss t1 (.int .i64 1) fun t16 =>
  condT t16
  (R (.int .i64 0) w1)
  (nilT PR t0 fun t19 =>
  fadT 0 t19 fun t20 =>
  ldT t20 w1 fun t21 =>
  lenT t21 fun t22 =>
  binT .eql t22 (.int .i64 0) fun t23 =>
  condT t23
  (R (.int .i64 0) w1)
  (nilT PR t0 fun t26 =>
  fadT 1 t26 fun t27 =>
  ldT t27 w1 fun t28 =>
  binT .sub t28 (.int .i64 1) fun t29 =>
  nilT PR t0 fun t32 =>
  fadT 0 t32 fun t33 =>
  ldT t33 w1 fun t34 =>
  lenT t34 fun t35 =>
  binT .lss t29 t35 fun t36 =>
  condT t36
  (nilT PR t0 fun t38 =>
  fadT 0 t38 fun t39 =>
  ldT t39 w1 fun t40 =>
  ixaT 1 t40 t29 fun t42 =>
  ldT t42 w1 fun t43 =>
  cviT .i64 t43 fun t44 =>
  binT .rem t44 t1 fun t46 =>
  R t46 w1)
  (nilT PR t0 fun t48 =>
  fadT 0 t48 fun t49 =>
  ldT t49 (w1.drew) fun t50 =>
  nilT PR t0 fun t53 =>
  fadT 0 t53 fun t54 =>
  ldT t54 (w1.drew) fun t55 =>
  lenT t55 fun t56 =>
  binT .rem t29 t56 fun t57 =>
  ixaT 1 t50 t57 fun t58 =>
  ldT t58 (w1.drew) fun t59 =>
  cviT .i64 t59 fun t60 =>
  binT .mul t60 (.int .i64 131) fun t61 =>
  nilT PR t0 fun t63 =>
  fadT 0 t63 fun t64 =>
  ldT t64 (w1.drew) fun t65 =>
  binT .mul t29 (.int .i64 7) fun t67 =>
  binT .add t67 (.int .i64 3) fun t68 =>
  nilT PR t0 fun t70 =>
  fadT 0 t70 fun t71 =>
  ldT t71 (w1.drew) fun t72 =>
  lenT t72 fun t73 =>
  binT .rem t68 t73 fun t74 =>
  ixaT 1 t65 t74 fun t75 =>
  ldT t75 (w1.drew) fun t76 =>
  cviT .i64 t76 fun t77 =>
  binT .mul t77 (.int .i64 1117) fun t78 =>
  binT .add t61 t78 fun t79 =>
  binT .mul t29 (.int .i64 29) fun t81 =>
  binT .add t79 t81 fun t82 =>
  nilT PR t0 fun t85 =>
  fadT 0 t85 fun t86 =>
  ldT t86 (w1.drew) fun t87 =>
  lenT t87 fun t88 =>
  binT .quo t29 t88 fun t89 =>
  binT .mul t89 (.int .i64 53) fun t90 =>
  binT .add t82 t90 fun t91 =>
  binT .quo t91 (.int .i64 64) fun t94 =>
  binT .xor t91 t94 fun t95 =>
  binT .rem t95 t1 fun t98 =>
  R t98 (w1.drew))))
def Fspec_l6Rd_pick.H : Hints := {draw := fun i => match i with | 7 => { T := [0, 1, 3, 7, 0, 0, 32, 96, 224, 480, 1008, 2047, 4095, 8191, 16383, 0, 32768, 98304, 229376, 0, 524288, 1572864, 0, 4194304, 12582912, 29360128, 62914560, 133693440, 268402688, 536838144, 1073709056, 2147450880, 4294967295, 0, 8589934592, 34359738367, 0, 0, 137438953472, 412316860416, 962072674304, 2061584302080, 4329327034368, 8727373545472, 17592186044415, 35184372088831] } | _ => {}}
theorem Fspec_l6Rd_pick.eq (t0 t1 : Value) : trF PR CX Fspec_l6Rd_pick.H Tryz.f139 [t0, t1] = Fspec_l6Rd_pick t0 t1 := by kernel_rfl
theorem Fspec_l6Rd_pick.cl {t0 t1 : Value} {w : World} {R : VW} (h : Fspec_l6Rd_pick t0 t1 w R) : clT PR 139 [t0, t1] w R := cl_of_tr (H := Fspec_l6Rd_pick.H) ctxOk Tryz.func139 rfl (by rw [Fspec_l6Rd_pick.eq]; exact h)
def Fspec_l11Said.l1 (x1 x2 x4 x5 : Value) (w : World) (Kn Kb Kr : LW) : Prop := ∀ _ : Env,
  lenT x1 fun t9 =>
  binT .lss x5 t9 fun t10 =>
  condT t10
  (ixaT 2 x1 x5 fun t15 =>
  ldsT 2 t15 w fun t16 =>
  allocT 127 #[(.int .i64 0), (.int .i64 0)] w fun t6 w2 =>
  stsT 2 t6 t16 w2 fun w3 =>
  fadT 0 t6 fun t17 =>
  ldT t17 w3 fun t18 =>
  binT .eql t18 (.int .i64 2) fun t19 =>
  condT t19
  (fadT 1 t6 fun t21 =>
  ldT t21 w3 fun t22 =>
  fadT 0 x2 fun t23 =>
  ldT t23 w3 fun t24 =>
  lenT t24 fun t25 =>
  binT .sub t25 (.int .i64 1) fun t26 =>
  clT PR 128 [t22, (.int .i64 0), t26] w3 fun t27 w4 =>
  notT t27 fun t28 =>
  condT t28
  (Kr [x1, x2, (.bool false), x5] w4)
  (fadT 0 t6 fun t31 =>
  ldT t31 w4 fun t32 =>
  binT .neq t32 (.int .i64 2) fun t33 =>
  condT t33
  (ldsT 2 t6 w4 fun t35 =>
  clT PR 203 [t35, (.int .i64 0)] w4 fun t36 w5 =>
  notT t36 fun t37 =>
  condT t37
  (Kr [x1, x2, (.bool false), x5] w5)
  (binT .add x5 (.int .i64 1) fun t12 =>
  Kn [x1, x2, x4, t12] w5))
  (binT .add x5 (.int .i64 1) fun t12 =>
  Kn [x1, x2, x4, t12] w4)))
  (fadT 0 t6 fun t31 =>
  ldT t31 w3 fun t32 =>
  binT .neq t32 (.int .i64 2) fun t33 =>
  condT t33
  (ldsT 2 t6 w3 fun t35 =>
  clT PR 203 [t35, (.int .i64 0)] w3 fun t36 w6 =>
  notT t36 fun t37 =>
  condT t37
  (Kr [x1, x2, (.bool false), x5] w6)
  (binT .add x5 (.int .i64 1) fun t12 =>
  Kn [x1, x2, x4, t12] w6))
  (binT .add x5 (.int .i64 1) fun t12 =>
  Kn [x1, x2, x4, t12] w3)))
  (Kb [x1, x2, x4, x5] w)
def Fspec_l11Said.k2 (x1 x2 x4 x5 : Value) (w : World) (R : VW) : Prop := ∀ _ : Env,
  R (.bool true) w
def Fspec_l11Said.r3 (x1 x2 x4 x5 : Value) (w : World) (R : VW) : Prop := ∀ _ : Env,
  R x4 w
def Fspec_l11Said (t0 t1 : Value) (w : World) (R : VW) : Prop :=
  boxT 42 t0 w fun t2 w1 =>
  loopT (fun s w Kn Kb Kr => Fspec_l11Said.l1 (s.headD undef) (s.tail.headD undef) (s.tail.tail.headD undef) (s.tail.tail.tail.headD undef) w Kn Kb Kr) [t1, t2, (.bool false), (.int .i64 0)] w1
  (fun s w => Fspec_l11Said.k2 (s.headD undef) (s.tail.headD undef) (s.tail.tail.headD undef) (s.tail.tail.tail.headD undef) w R)
  (fun s w => Fspec_l11Said.r3 (s.headD undef) (s.tail.headD undef) (s.tail.tail.headD undef) (s.tail.tail.tail.headD undef) w R)
def Fspec_l11Said.H : Hints := {loop := fun i => match i with | 2 => some (0, [1, 2, 4, 5]) | _ => none}
theorem Fspec_l11Said.eq (t0 t1 : Value) : trF PR CX Fspec_l11Said.H Tryz.f141 [t0, t1] = Fspec_l11Said t0 t1 := by kernel_rfl
theorem Fspec_l11Said.cl {t0 t1 : Value} {w : World} {R : VW} (h : Fspec_l11Said t0 t1 w R) : clT PR 141 [t0, t1] w R := cl_of_tr (H := Fspec_l11Said.H) ctxOk Tryz.func141 rfl (by rw [Fspec_l11Said.eq]; exact h)
def Fspec_l11Form (t0 t1 t2 : Value) (w : World) (R : VW) : Prop :=
  boxT 42 t0 w fun t3 w1 =>
  boxT 89 t1 w1 fun t4 w2 =>
  fadT 0 t4 fun t7 =>
  ldT t7 (w2.drew) fun t8 =>
  fadT 0 t3 fun t9 =>
  ldT t9 (w2.drew) fun t10 =>
  lenT t10 fun t11 =>
  binT .sub t11 (.int .i64 1) fun t12 =>
  clT PR 128 [t8, (.int .i64 0), t12] (w2.drew) fun t13 w3 =>
  notT t13 fun t14 =>
  condT t14
  (R (.bool false) w3)
  (fadT 1 t4 fun t16 =>
  ldT t16 w3 fun t17 =>
  fadT 0 t3 fun t18 =>
  ldT t18 w3 fun t19 =>
  fadT 0 t4 fun t20 =>
  ldT t20 w3 fun t21 =>
  ixaT 3 t19 t21 fun t22 =>
  fadT 2 t22 fun t23 =>
  ldT t23 w3 fun t24 =>
  lenT t24 fun t25 =>
  clT PR 128 [t17, (.int .i64 0), t25] w3 fun t26 w4 =>
  notT t26 fun t27 =>
  condT t27
  (R (.bool false) w4)
  (fadT 2 t4 fun t30 =>
  ldT t30 w4 fun t31 =>
  lenT t31 fun t32 =>
  fadT 0 t3 fun t33 =>
  ldT t33 w4 fun t34 =>
  fadT 0 t4 fun t35 =>
  ldT t35 w4 fun t36 =>
  ixaT 3 t34 t36 fun t37 =>
  fadT 1 t37 fun t38 =>
  ldT t38 w4 fun t39 =>
  binT .neq t32 t39 fun t40 =>
  condT t40
  (R (.bool false) w4)
  (fadT 3 t4 fun t43 =>
  ldT t43 w4 fun t44 =>
  lenT t44 fun t45 =>
  binT .gtr t45 (.int .i64 6) fun t46 =>
  condT t46
  (R (.bool false) w4)
  (fadT 4 t4 fun t48 =>
  ldT t48 w4 fun t49 =>
  binT .sub t2 (.int .i64 1) fun t51 =>
  clT PR 128 [t49, (.int .i64 (-1)), t51] w4 fun t52 w5 =>
  condT t52
  (fadT 2 t4 fun t54 =>
  ldT t54 w5 fun t55 =>
  clT PR 220 [t55, t2] w5 fun t57 w6 =>
  condT t57
  (fadT 3 t4 fun t60 =>
  ldT t60 w6 fun t61 =>
  clT PR 220 [t61, t2] w6 fun t63 w7 =>
  condT t63
  (fadT 5 t4 fun t66 =>
  ldT t66 w7 fun t67 =>
  notT t67 fun t68 =>
  condT t68
  (R (.bool true) w7)
  (fadT 4 t4 fun t70 =>
  ldT t70 w7 fun t71 =>
  binT .eql t71 (.int .i64 (-1)) fun t72 =>
  condT t72
  (fadT 3 t4 fun t74 =>
  ldT t74 w7 fun t75 =>
  lenT t75 fun t76 =>
  binT .eql t76 (.int .i64 0) fun t77 =>
  R t77 w7)
  (R (.bool false) w7)))
  (R (.bool false) w7))
  (R (.bool false) w6))
  (R (.bool false) w5)))))
def Fspec_l11Form.H : Hints := {draw := fun i => match i with | 1 => { T := [0, 1, 0, 4, 12, 28, 63, 127, 255, 511, 1023, 511, 2559, 511, 8703, 31231, 63999, 129535, 260607, 524287, 1048575, 2097151, 4194303, 8388607, 16777215, 33554431, 8388607, 75497471, 8388607, 276824063, 1015021567, 2088763391, 4236247039, 8589934591, 17179869183, 34359738367, 68719476735, 137438953471, 274877906943, 549755813887, 1099511627775] } | _ => {}}
theorem Fspec_l11Form.eq (t0 t1 t2 : Value) : trF PR CX Fspec_l11Form.H Tryz.f165 [t0, t1, t2] = Fspec_l11Form t0 t1 t2 := by kernel_rfl
theorem Fspec_l11Form.cl {t0 t1 t2 : Value} {w : World} {R : VW} (h : Fspec_l11Form t0 t1 t2 w R) : clT PR 165 [t0, t1, t2] w R := cl_of_tr (H := Fspec_l11Form.H) ctxOk Tryz.func165 rfl (by rw [Fspec_l11Form.eq]; exact h)
def Fspec_l11Chain.l1 (x1 x2 x3 x4 : Value) (w : World) (Kn Kb Kr : LW) : Prop := ∀ _ : Env,
  binT .geq x4 (.int .i64 0) fun t9 =>
  condT t9
  (lenT x3 fun t17 =>
  fadT 0 x1 fun t18 =>
  ldT t18 w fun t19 =>
  lenT t19 fun t20 =>
  binT .geq t17 t20 fun t21 =>
  condT t21
  (bslT 3 0 1 #[] [] w fun t37 w3 =>
  Kr [x1, t37, x3, x4] w3)
  (fadT 0 x1 fun t24 =>
  ldT t24 w fun t25 =>
  lenT t25 fun t26 =>
  binT .geq x4 t26 fun t27 =>
  condT t27
  (bslT 3 0 1 #[] [] w fun t37 w4 =>
  Kr [x1, t37, x3, x4] w4)
  (fadT 0 x1 fun t30 =>
  ldT t30 w fun t31 =>
  ixaT 6 t31 x4 fun t33 =>
  fadT 5 t33 fun t34 =>
  ldT t34 w fun t35 =>
  condT t35
  (bslT 3 0 1 #[] [] w fun t37 w5 =>
  Kr [x1, t37, x3, x4] w5)
  (bslT 3 1 1 #[(.int .i64 0)] [(0, 1, x4)] w fun t40 w6 =>
  opT PR (Builtin.append_ #[26, 26] 26 #[x3, t40]) w6 fun t41 w7 =>
  fadT 0 x1 fun t10 =>
  ldT t10 w7 fun t11 =>
  ixaT 6 t11 x4 fun t13 =>
  fadT 4 t13 fun t14 =>
  ldT t14 w7 fun t15 =>
  Kn [x1, x2, t41, t15] w7))))
  (Kb [x1, x2, x3, x4] w)
def Fspec_l11Chain.k2 (x1 x2 x3 x4 : Value) (w : World) (R : VW) : Prop := ∀ _ : Env,
  R x3 w
def Fspec_l11Chain.r3 (x1 x2 x3 x4 : Value) (w : World) (R : VW) : Prop := ∀ _ : Env,
  R x2 w
def Fspec_l11Chain (t0 : Value) (w : World) (R : VW) : Prop :=
  boxT 57 t0 w fun t1 w1 =>
  bslT 3 0 1 #[] [] w1 fun t5 w2 =>
  fadT 1 t1 fun t6 =>
  ldT t6 w2 fun t7 =>
  loopT (fun s w Kn Kb Kr => Fspec_l11Chain.l1 (s.headD undef) (s.tail.headD undef) (s.tail.tail.headD undef) (s.tail.tail.tail.headD undef) w Kn Kb Kr) [t1, (.slice none 0 0), t5, t7] w2
  (fun s w => Fspec_l11Chain.k2 (s.headD undef) (s.tail.headD undef) (s.tail.tail.headD undef) (s.tail.tail.tail.headD undef) w R)
  (fun s w => Fspec_l11Chain.r3 (s.headD undef) (s.tail.headD undef) (s.tail.tail.headD undef) (s.tail.tail.tail.headD undef) w R)
def Fspec_l11Chain.H : Hints := {loop := fun i => match i with | 3 => some (0, [1, 2, 3, 4]) | _ => none}
theorem Fspec_l11Chain.eq (t0 : Value) : trF PR CX Fspec_l11Chain.H Tryz.f166 [t0] = Fspec_l11Chain t0 := by kernel_rfl
theorem Fspec_l11Chain.cl {t0 : Value} {w : World} {R : VW} (h : Fspec_l11Chain t0 w R) : clT PR 166 [t0] w R := cl_of_tr (H := Fspec_l11Chain.H) ctxOk Tryz.func166 rfl (by rw [Fspec_l11Chain.eq]; exact h)
def Fspec_l11Wait.l1 (x1 x2 x3 x4 : Value) (w : World) (Kn Kb Kr : LW) : Prop := ∀ _ : Env,
  lenT x3 fun t9 =>
  binT .lss x4 t9 fun t10 =>
  condT t10
  (fadT 0 x1 fun t13 =>
  ldT t13 (w.drew) fun t14 =>
  ixaT 1 x3 x4 fun t17 =>
  ldT t17 (w.drew) fun t18 =>
  ixaT 6 t14 t18 fun t19 =>
  fadT 3 t19 fun t20 =>
  ldT t20 (w.drew) fun t21 =>
  lenT t21 fun t22 =>
  binT .geq t22 (.int .i64 6) fun t23 =>
  condT t23
  (Kr [x1, (.bool false), x3, x4] (w.drew))
  (binT .add x4 (.int .i64 1) fun t12 =>
  Kn [x1, x2, x3, t12] (w.drew)))
  (Kb [x1, x2, x3, x4] w)
def Fspec_l11Wait.k2 (x1 x2 x3 x4 : Value) (w : World) (R : VW) : Prop := ∀ _ : Env,
  R (.bool true) w
def Fspec_l11Wait.r3 (x1 x2 x3 x4 : Value) (w : World) (R : VW) : Prop := ∀ _ : Env,
  R x2 w
def Fspec_l11Wait (t0 : Value) (w : World) (R : VW) : Prop :=
  boxT 57 t0 w fun t1 w1 =>
  ldsT 5 t1 w1 fun t5 =>
  clT PR 166 [t5] w1 fun t6 w2 =>
  loopT (fun s w Kn Kb Kr => Fspec_l11Wait.l1 (s.headD undef) (s.tail.headD undef) (s.tail.tail.headD undef) (s.tail.tail.tail.headD undef) w Kn Kb Kr) [t1, (.bool false), t6, (.int .i64 1)] w2
  (fun s w => Fspec_l11Wait.k2 (s.headD undef) (s.tail.headD undef) (s.tail.tail.headD undef) (s.tail.tail.tail.headD undef) w R)
  (fun s w => Fspec_l11Wait.r3 (s.headD undef) (s.tail.headD undef) (s.tail.tail.headD undef) (s.tail.tail.tail.headD undef) w R)
def Fspec_l11Wait.H : Hints := {draw := fun i => match i with | 5 => { T := [0, 1, 0, 0, 12, 28, 63, 127, 255, 511, 1023] } | _ => {}, loop := fun i => match i with | 3 => some (0, [1, 2, 3, 4]) | _ => none}
theorem Fspec_l11Wait.eq (t0 : Value) : trF PR CX Fspec_l11Wait.H Tryz.f167 [t0] = Fspec_l11Wait t0 := by kernel_rfl
theorem Fspec_l11Wait.cl {t0 : Value} {w : World} {R : VW} (h : Fspec_l11Wait t0 w R) : clT PR 167 [t0] w R := cl_of_tr (H := Fspec_l11Wait.H) ctxOk Tryz.func167 rfl (by rw [Fspec_l11Wait.eq]; exact h)
def Fspec_l1Method.l1 (x2 x3 x4 x5 : Value) (w : World) (Kn Kb Kr : LW) : Prop := ∀ _ : Env,
  fadT 2 x3 fun t25 =>
  ldT t25 w fun t26 =>
  lenT t26 fun t27 =>
  binT .lss x5 t27 fun t28 =>
  condT t28
  (ldsT 1 x2 (w.drew) fun t31 =>
  ldsT 3 x3 (w.drew) fun t32 =>
  fadT 2 x3 fun t33 =>
  ldT t33 (w.drew) fun t34 =>
  ixaT 2 t34 x5 fun t36 =>
  ldsT 2 t36 (w.drew) fun t37 =>
  clT PR 229 [t31, t32, t37] (w.drew) fun t38 w5 =>
  notT t38 fun t39 =>
  condT t39
  (Kr [x2, x3, (.bool false), x5] w5)
  (binT .add x5 (.int .i64 1) fun t30 =>
  Kn [x2, x3, x4, t30] w5))
  (Kb [x2, x3, x4, x5] w)
def Fspec_l1Method.k2 (x2 x3 x4 x5 : Value) (w : World) (R : VW) : Prop := ∀ _ : Env,
  R (.bool true) w
def Fspec_l1Method.r3 (x2 x3 x4 x5 : Value) (w : World) (R : VW) : Prop := ∀ _ : Env,
  R x4 w
def Fspec_l1Method (t0 t1 : Value) (w : World) (R : VW) : Prop :=
  boxT 42 t0 w fun t2 w1 =>
  boxT 199 t1 w1 fun t3 w2 =>
  fadT 0 t3 fun t6 =>
  ldT t6 w2 fun t7 =>
  clT PR 128 [t7, (.int .i64 0), (.int .i64 2)] w2 fun t8 w3 =>
  notT t8 fun t9 =>
  condT t9
  (R (.bool false) w3)
  (fadT 1 t3 fun t11 =>
  ldT t11 w3 fun t12 =>
  fadT 0 t3 fun t13 =>
  ldT t13 w3 fun t14 =>
  clT PR 128 [t12, t14, (.int .i64 4)] w3 fun t15 w4 =>
  notT t15 fun t16 =>
  condT t16
  (R (.bool false) w4)
  (fadT 2 t3 fun t19 =>
  ldT t19 w4 fun t20 =>
  lenT t20 fun t21 =>
  binT .gtr t21 (.int .i64 14) fun t22 =>
  condT t22
  (R (.bool false) w4)
  (loopT (fun s w Kn Kb Kr => Fspec_l1Method.l1 (s.headD undef) (s.tail.headD undef) (s.tail.tail.headD undef) (s.tail.tail.tail.headD undef) w Kn Kb Kr) [t2, t3, (.bool false), (.int .i64 0)] w4
  (fun s w => Fspec_l1Method.k2 (s.headD undef) (s.tail.headD undef) (s.tail.tail.headD undef) (s.tail.tail.tail.headD undef) w R)
  (fun s w => Fspec_l1Method.r3 (s.headD undef) (s.tail.headD undef) (s.tail.tail.headD undef) (s.tail.tail.tail.headD undef) w R))))
def Fspec_l1Method.H : Hints := {draw := fun i => match i with | 6 => { T := [0, 0, 0, 4, 0, 28, 60, 127, 255] } | _ => {}, loop := fun i => match i with | 4 => some (0, [2, 3, 4, 5]) | _ => none}
theorem Fspec_l1Method.eq (t0 t1 : Value) : trF PR CX Fspec_l1Method.H Tryz.f187 [t0, t1] = Fspec_l1Method t0 t1 := by kernel_rfl
theorem Fspec_l1Method.cl {t0 t1 : Value} {w : World} {R : VW} (h : Fspec_l1Method t0 t1 w R) : clT PR 187 [t0, t1] w R := cl_of_tr (H := Fspec_l1Method.H) ctxOk Tryz.func187 rfl (by rw [Fspec_l1Method.eq]; exact h)
def Fspec_OpTakes.j8 (x2 x3 x7 x8 : Value) (w : World) (R : VW) : Prop := ∀ _ : Env,
  R (.tuple #[(.int .i64 0), (.int .i64 0)]) w
def Fspec_OpTakes.j7 (x2 x3 x7 x12 : Value) (w : World) (R : VW) : Prop := ∀ _ : Env,
  Fspec_OpTakes.j8 x2 x3 x7 undef w R
def Fspec_OpTakes.j6 (x2 x3 x7 x18 : Value) (w : World) (R : VW) : Prop := ∀ _ : Env,
  Fspec_OpTakes.j7 x2 x3 x7 undef w R
def Fspec_OpTakes.j5 (x2 x3 x7 x21 : Value) (w : World) (R : VW) : Prop := ∀ _ : Env,
  Fspec_OpTakes.j6 x2 x3 x7 undef w R
def Fspec_OpTakes.j4 (x2 x3 x7 x21 : Value) (w : World) (R : VW) : Prop := ∀ _ : Env,
  condT x21
  (R (.tuple #[(.int .i64 1), (.int .i64 1)]) w)
  (binT .eql x7 (.int .i64 14) fun t27 =>
  condT t27
  (R (.tuple #[(.int .i64 2), (.int .i64 0)]) w)
  (binT .eql x7 (.int .i64 15) fun t29 =>
  condT t29
  (R (.tuple #[(.int .i64 2), (.int .i64 1)]) w)
  (binT .eql x7 (.int .i64 9) fun t31 =>
  condT t31
  (fadT 1 x3 fun t32 =>
  ldT t32 w fun t33 =>
  fadT 0 x2 fun t34 =>
  ldT t34 w fun t35 =>
  lenT t35 fun t36 =>
  binT .sub t36 (.int .i64 1) fun t37 =>
  clT PR 128 [t33, (.int .i64 0), t37] w fun t38 w3 =>
  condT t38
  (fadT 0 x2 fun t39 =>
  ldT t39 w3 fun t40 =>
  fadT 1 x3 fun t41 =>
  ldT t41 w3 fun t42 =>
  ixaT 3 t40 t42 fun t43 =>
  fadT 0 t43 fun t44 =>
  ldT t44 w3 fun t45 =>
  R (.tuple #[t45, (.int .i64 1)]) w3)
  (Fspec_OpTakes.j5 x2 x3 x7 x21 w3 R))
  (Fspec_OpTakes.j5 x2 x3 x7 x21 w R))))
def Fspec_OpTakes.j9 (x2 x3 x7 x21 : Value) (w : World) (R : VW) : Prop := ∀ _ : Env,
  Fspec_OpTakes.j4 x2 x3 x7 x21 w R
def Fspec_OpTakes.j10 (x2 x3 x7 x21 : Value) (w : World) (R : VW) : Prop := ∀ _ : Env,
  Fspec_OpTakes.j9 x2 x3 x7 x21 w R
def Fspec_OpTakes.j3 (x2 x3 x7 x18 : Value) (w : World) (R : VW) : Prop := ∀ _ : Env,
  condT x18
  (R (.tuple #[(.int .i64 2), (.int .i64 1)]) w)
  (binT .eql x7 (.int .i64 12) fun t22 =>
  condT t22
  (Fspec_OpTakes.j4 x2 x3 x7 t22 w R)
  (binT .eql x7 (.int .i64 13) fun t23 =>
  condT t23
  (Fspec_OpTakes.j9 x2 x3 x7 t23 w R)
  (binT .eql x7 (.int .i64 17) fun t24 =>
  condT t24
  (Fspec_OpTakes.j10 x2 x3 x7 t24 w R)
  (binT .eql x7 (.int .i64 18) fun t25 =>
  Fspec_OpTakes.j10 x2 x3 x7 t25 w R))))
def Fspec_OpTakes.j2 (x2 x3 x7 x12 : Value) (w : World) (R : VW) : Prop := ∀ _ : Env,
  condT x12
  (R (.tuple #[(.int .i64 1), (.int .i64 0)]) w)
  (binT .eql x7 (.int .i64 5) fun t19 =>
  condT t19
  (Fspec_OpTakes.j3 x2 x3 x7 t19 w R)
  (binT .eql x7 (.int .i64 6) fun t20 =>
  Fspec_OpTakes.j3 x2 x3 x7 t20 w R))
def Fspec_OpTakes.j11 (x2 x3 x7 x12 : Value) (w : World) (R : VW) : Prop := ∀ _ : Env,
  Fspec_OpTakes.j2 x2 x3 x7 x12 w R
def Fspec_OpTakes.j12 (x2 x3 x7 x12 : Value) (w : World) (R : VW) : Prop := ∀ _ : Env,
  Fspec_OpTakes.j11 x2 x3 x7 x12 w R
def Fspec_OpTakes.j13 (x2 x3 x7 x12 : Value) (w : World) (R : VW) : Prop := ∀ _ : Env,
  Fspec_OpTakes.j12 x2 x3 x7 x12 w R
def Fspec_OpTakes.j1 (x2 x3 x7 x8 : Value) (w : World) (R : VW) : Prop := ∀ _ : Env,
  condT x8
  (R (.tuple #[(.int .i64 0), (.int .i64 1)]) w)
  (binT .eql x7 (.int .i64 3) fun t13 =>
  condT t13
  (Fspec_OpTakes.j2 x2 x3 x7 t13 w R)
  (binT .eql x7 (.int .i64 4) fun t14 =>
  condT t14
  (Fspec_OpTakes.j11 x2 x3 x7 t14 w R)
  (binT .eql x7 (.int .i64 8) fun t15 =>
  condT t15
  (Fspec_OpTakes.j12 x2 x3 x7 t15 w R)
  (binT .eql x7 (.int .i64 10) fun t16 =>
  condT t16
  (Fspec_OpTakes.j13 x2 x3 x7 t16 w R)
  (binT .eql x7 (.int .i64 16) fun t17 =>
  Fspec_OpTakes.j13 x2 x3 x7 t17 w R)))))
def Fspec_OpTakes.j14 (x2 x3 x7 x8 : Value) (w : World) (R : VW) : Prop := ∀ _ : Env,
  Fspec_OpTakes.j1 x2 x3 x7 x8 w R
def Fspec_OpTakes (t0 t1 : Value) (w : World) (R : VW) : Prop :=
  boxT 42 t0 w fun t2 w1 =>
  boxT 221 t1 w1 fun t3 w2 =>
  fadT 0 t3 fun t6 =>
  ldT t6 w2 fun t7 =>
  binT .eql t7 (.int .i64 1) fun t9 =>
  condT t9
  (Fspec_OpTakes.j1 t2 t3 t7 t9 w2 R)
  (binT .eql t7 (.int .i64 2) fun t10 =>
  condT t10
  (Fspec_OpTakes.j14 t2 t3 t7 t10 w2 R)
  (binT .eql t7 (.int .i64 11) fun t11 =>
  Fspec_OpTakes.j14 t2 t3 t7 t11 w2 R))
def Fspec_OpTakes.H : Hints := {join := fun i => match i with | 8 => some [2, 3, 7, 8] | 12 => some [2, 3, 7, 12] | 18 => some [2, 3, 7, 18] | 21 => some [2, 3, 7, 21] | _ => none}
theorem Fspec_OpTakes.eq (t0 t1 : Value) : trF PR CX Fspec_OpTakes.H Tryz.f198 [t0, t1] = Fspec_OpTakes t0 t1 := by kernel_rfl
theorem Fspec_OpTakes.cl {t0 t1 : Value} {w : World} {R : VW} (h : Fspec_OpTakes t0 t1 w R) : clT PR 198 [t0, t1] w R := cl_of_tr (H := Fspec_OpTakes.H) ctxOk Tryz.func198 rfl (by rw [Fspec_OpTakes.eq]; exact h)
def Fspec_l11Val (t0 t1 : Value) (w : World) (R : VW) : Prop :=
  boxT 127 t0 w fun t2 w1 =>
  fadT 0 t2 fun t5 =>
  ldT t5 w1 fun t6 =>
  binT .eql t6 (.int .i64 0) fun t8 =>
  condT t8
  (fadT 1 t2 fun t9 =>
  ldT t9 w1 fun t10 =>
  binT .eql t10 (.int .i64 0) fun t11 =>
  R t11 w1)
  (binT .eql t6 (.int .i64 1) fun t13 =>
  condT t13
  (fadT 1 t2 fun t14 =>
  ldT t14 w1 fun t15 =>
  clT PR 128 [t15, (.int .i64 0), (.int .i64 999)] w1 fun t16 w2 =>
  R t16 w2)
  (binT .eql t6 (.int .i64 2) fun t18 =>
  condT t18
  (fadT 1 t2 fun t19 =>
  ldT t19 w1 fun t20 =>
  binT .sub t1 (.int .i64 1) fun t22 =>
  clT PR 128 [t20, (.int .i64 0), t22] w1 fun t23 w3 =>
  R t23 w3)
  (R (.bool false) w1)))
def Fspec_l11Val.H : Hints := {}
theorem Fspec_l11Val.eq (t0 t1 : Value) : trF PR CX Fspec_l11Val.H Tryz.f203 [t0, t1] = Fspec_l11Val t0 t1 := by kernel_rfl
theorem Fspec_l11Val.cl {t0 t1 : Value} {w : World} {R : VW} (h : Fspec_l11Val t0 t1 w R) : clT PR 203 [t0, t1] w R := cl_of_tr (H := Fspec_l11Val.H) ctxOk Tryz.func203 rfl (by rw [Fspec_l11Val.eq]; exact h)
def Fspec_l11Vals.l1 (x0 x1 x4 x5 : Value) (w : World) (Kn Kb Kr : LW) : Prop := ∀ _ : Env,
  lenT x0 fun t8 =>
  binT .lss x5 t8 fun t9 =>
  condT t9
  (ixaT 2 x0 x5 fun t14 =>
  ldsT 2 t14 w fun t15 =>
  clT PR 203 [t15, x1] w fun t17 w1 =>
  notT t17 fun t18 =>
  condT t18
  (Kr [x0, x1, (.bool false), x5] w1)
  (binT .add x5 (.int .i64 1) fun t11 =>
  Kn [x0, x1, x4, t11] w1))
  (Kb [x0, x1, x4, x5] w)
def Fspec_l11Vals.k2 (x0 x1 x4 x5 : Value) (w : World) (R : VW) : Prop := ∀ _ : Env,
  R (.bool true) w
def Fspec_l11Vals.r3 (x0 x1 x4 x5 : Value) (w : World) (R : VW) : Prop := ∀ _ : Env,
  R x4 w
def Fspec_l11Vals (t0 t1 : Value) (w : World) (R : VW) : Prop :=
  loopT (fun s w Kn Kb Kr => Fspec_l11Vals.l1 (s.headD undef) (s.tail.headD undef) (s.tail.tail.headD undef) (s.tail.tail.tail.headD undef) w Kn Kb Kr) [t0, t1, (.bool false), (.int .i64 0)] w
  (fun s w => Fspec_l11Vals.k2 (s.headD undef) (s.tail.headD undef) (s.tail.tail.headD undef) (s.tail.tail.tail.headD undef) w R)
  (fun s w => Fspec_l11Vals.r3 (s.headD undef) (s.tail.headD undef) (s.tail.tail.headD undef) (s.tail.tail.tail.headD undef) w R)
def Fspec_l11Vals.H : Hints := {loop := fun i => match i with | 2 => some (0, [0, 1, 4, 5]) | _ => none}
theorem Fspec_l11Vals.eq (t0 t1 : Value) : trF PR CX Fspec_l11Vals.H Tryz.f220 [t0, t1] = Fspec_l11Vals t0 t1 := by kernel_rfl
theorem Fspec_l11Vals.cl {t0 t1 : Value} {w : World} {R : VW} (h : Fspec_l11Vals t0 t1 w R) : clT PR 220 [t0, t1] w R := cl_of_tr (H := Fspec_l11Vals.H) ctxOk Tryz.func220 rfl (by rw [Fspec_l11Vals.eq]; exact h)
def Fspec_l1Op.j6 (x3 x4 x5 x8 x14 : Value) (w : World) (R : VW) : Prop := ∀ _ : Env,
  fadT 0 x5 fun t48 =>
  ldT t48 w fun t49 =>
  clT PR 128 [t49, (.int .i64 1), (.int .i64 18)] w fun t50 w9 =>
  condT t50
  (fadT 1 x5 fun t52 =>
  ldT t52 w9 fun t53 =>
  binT .eql t53 (.int .i64 0) fun t54 =>
  R t54 w9)
  (R (.bool false) w9)
def Fspec_l1Op.j5 (x3 x4 x5 x8 x23 : Value) (w : World) (R : VW) : Prop := ∀ _ : Env,
  Fspec_l1Op.j6 x3 x4 x5 x8 undef w R
def Fspec_l1Op.j4 (x5 x42 : Value) (w : World) (R : VW) : Prop := ∀ _ : Env,
  Fspec_l1Op.j5 undef undef x5 undef undef w R
def Fspec_l1Op.j3 (x5 x42 : Value) (w : World) (R : VW) : Prop := ∀ _ : Env,
  condT x42
  (fadT 1 x5 fun t45 =>
  ldT t45 w fun t46 =>
  clT PR 128 [t46, (.int .i64 0), (.int .i64 3)] w fun t47 w8 =>
  R t47 w8)
  (Fspec_l1Op.j4 x5 x42 w R)
def Fspec_l1Op.j2 (x3 x4 x5 x8 x23 : Value) (w : World) (R : VW) : Prop := ∀ _ : Env,
  condT x23
  (fadT 1 x5 fun t26 =>
  ldT t26 w fun t27 =>
  fadT 2 x4 fun t28 =>
  ldT t28 w fun t29 =>
  lenT t29 fun t30 =>
  binT .sub t30 (.int .i64 1) fun t31 =>
  clT PR 128 [t27, (.int .i64 0), t31] w fun t32 w6 =>
  R t32 w6)
  (binT .eql x8 (.int .i64 9) fun t34 =>
  condT t34
  (fadT 1 x5 fun t35 =>
  ldT t35 w fun t36 =>
  fadT 0 x3 fun t37 =>
  ldT t37 w fun t38 =>
  lenT t38 fun t39 =>
  binT .sub t39 (.int .i64 1) fun t40 =>
  clT PR 128 [t36, (.int .i64 0), t40] w fun t41 w7 =>
  R t41 w7)
  (binT .eql x8 (.int .i64 13) fun t43 =>
  condT t43
  (Fspec_l1Op.j3 x5 t43 w R)
  (binT .eql x8 (.int .i64 14) fun t44 =>
  Fspec_l1Op.j3 x5 t44 w R)))
def Fspec_l1Op.j1 (x3 x4 x5 x8 x14 : Value) (w : World) (R : VW) : Prop := ∀ _ : Env,
  condT x14
  (fadT 1 x5 fun t17 =>
  ldT t17 w fun t18 =>
  fadT 1 x4 fun t19 =>
  ldT t19 w fun t20 =>
  binT .sub t20 (.int .i64 1) fun t21 =>
  clT PR 128 [t18, (.int .i64 0), t21] w fun t22 w5 =>
  R t22 w5)
  (binT .eql x8 (.int .i64 7) fun t24 =>
  condT t24
  (Fspec_l1Op.j2 x3 x4 x5 x8 t24 w R)
  (binT .eql x8 (.int .i64 8) fun t25 =>
  Fspec_l1Op.j2 x3 x4 x5 x8 t25 w R))
def Fspec_l1Op (t0 t1 t2 : Value) (w : World) (R : VW) : Prop :=
  boxT 42 t0 w fun t3 w1 =>
  boxT 199 t1 w1 fun t4 w2 =>
  boxT 221 t2 w2 fun t5 w3 =>
  fadT 0 t5 fun t7 =>
  ldT t7 w3 fun t8 =>
  binT .eql t8 (.int .i64 1) fun t10 =>
  condT t10
  (fadT 1 t5 fun t11 =>
  ldT t11 w3 fun t12 =>
  clT PR 128 [t12, (.int .i64 0), (.int .i64 99)] w3 fun t13 w4 =>
  R t13 w4)
  (binT .eql t8 (.int .i64 2) fun t15 =>
  condT t15
  (Fspec_l1Op.j1 t3 t4 t5 t8 t15 w3 R)
  (binT .eql t8 (.int .i64 3) fun t16 =>
  Fspec_l1Op.j1 t3 t4 t5 t8 t16 w3 R))
def Fspec_l1Op.H : Hints := {join := fun i => match i with | 14 => some [3, 4, 5, 8, 14] | 23 => some [3, 4, 5, 8, 23] | 42 => some [5, 42] | _ => none}
theorem Fspec_l1Op.eq (t0 t1 t2 : Value) : trF PR CX Fspec_l1Op.H Tryz.f229 [t0, t1, t2] = Fspec_l1Op t0 t1 t2 := by kernel_rfl
theorem Fspec_l1Op.cl {t0 t1 t2 : Value} {w : World} {R : VW} (h : Fspec_l1Op t0 t1 t2 w R) : clT PR 229 [t0, t1, t2] w R := cl_of_tr (H := Fspec_l1Op.H) ctxOk Tryz.func229 rfl (by rw [Fspec_l1Op.eq]; exact h)
end Go.PT
namespace Go.PT
attribute [local irreducible] ldT ldsT stT stsT allocT boxT bldT bslT nilT fadT ixaT fldT extT lenT pickT binT notT cviT opT opU condT clT clvT ivT loopT arT ndT World.cell? World.frozen? World.alloc World.drew World.setCell Blk Cells Sl
theorem c_specIn {a b c : Int} {w : World} {R : VW} (h : R (.bool (inB a b c)) w) : clT PR 128 [.int .i64 a, .int .i64 b, .int .i64 c] w R := by
  refine Fspec_l6In.cl ?_
  unfold Fspec_l6In
  repeat (((refine geq_of ?_)))
  refine condP_of (fun hc => ?_) (fun hc => ?_)
  · repeat (((refine leq_of ?_)))
    have : inB a b c = decide (a ≤ c) := by unfold inB; rw [decide_eq_true (show b ≤ a from hc), Bool.true_and]
    rw [← this]; exact h
  · have : inB a b c = false := by unfold inB; rw [decide_eq_false (show ¬ b ≤ a from hc), Bool.false_and]
    rw [← this]; exact h
theorem c_specVal {v : V} {n : Int} {w : World} {R : VW} (hn : 0 ≤ n) (hn' : n ≤ 1073741824) (hR : ∀ w', Ext w w' → R (.bool (valOk n v)) w') : clT PR 203 [.agg #[.int .i64 v.1, .int .i64 v.2], .int .i64 n] w R := by
  replace hR : ∀ w' b, Ext w w' → b = valOk n v → R (.bool b) w' := fun w' b e h => h ▸ hR w' e
  refine Fspec_l11Val.cl ?_
  unfold Fspec_l11Val
  refine box_of' (fun b1 w1 e1 hb1 (k1 : Blk w1 b1 [.int .i64 v.1, .int .i64 v.2]) => ?_)
  repeat' (first | (first | refine fad_of ?_ | refine eql_of ?_) | ((refine sub_of (by (omega)) (by (omega)) ?_)) | ((apply ld_of; (case h => iterate 14 (first | done | exact Blk.cell (by assumption) (by exact rfl))))) | ((fail)) | ((refine condP_of (fun _ => ?_) (fun _ => ?_))) | refine c_specIn ?_)
  all_goals exact hR _ _ (by iterate 20 (first | done | assumption)) (by unfold valOk; simp [*])
theorem c_specVals {l : List V} {u : Value} {n : Int} {w : World} {R : VW} (h : Sl kPair Any w [] l u) (hl : l.length ≤ 1073741824) (hn : 0 ≤ n) (hn' : n ≤ 1073741824) (hR : ∀ w', Ext w w' → R (.bool (valsOk n l)) w') :
    clT PR 220 [u, .int .i64 n] w R := by
  replace hR : ∀ w' b, Ext w w' → b = valsOk n l → R (.bool b) w' := fun w' b e h => h ▸ hR w' e
  refine Fspec_l11Vals.cl ?_
  unfold Fspec_l11Vals
  refine loop_of (fun m s w' => Ext w w' ∧ ∃ i : Nat, i + m = l.length ∧ s = [u, .int .i64 n, .bool false, .int .i64 i] ∧ valsOk n (l.take i) = true) ?_ (m := l.length) ⟨Fr.refl _ _, 0, by omega, rfl, rfl⟩
  rintro m s w' Kn ⟨he, i, hi, rfl, hok⟩ hKn
  intro _
  simp only [List.headD_cons, List.tail_cons]
  repeat (first | ((refine lss_of ?_)) | (refine Sl.len_of (by assumption) ?_))
  refine condP_of (fun hc => ?_) (fun hc => ?_)
  · have hil : i < l.length := by omega
    refine pair_ix (h.ext he) (by omega) (by omega) (fun b o hcell => ?_)
    repeat (((apply lds_of; (case h => iterate 14 (first | done | assumption)); (case hn => exact rfl))))
    have hx : l[i]? = some (pairAt l i) := by unfold pairAt; rw [Int.toNat_natCast, List.getD_eq_getElem?_getD, List.getElem?_eq_getElem hil]; rfl
    refine c_specVal hn hn' (fun w1 e1 => ?_)
    repeat (((refine not_of ?_)))
    refine condN_of (fun hf => ?_) (fun ht => ?_)
    · intro _
      refine hR _ _ (by iterate 20 (first | done | assumption | (apply fun h => Fr.trans h (by assumption)))) ?_
      symm
      unfold valsOk
      rw [List.all_eq_false]
      exact ⟨_, List.mem_of_getElem? hx, by rw [hf]; simp⟩
    · repeat (((refine add_of (by (omega)) (by (omega)) ?_)))
      refine hKn (m - 1) _ _ (by omega) ⟨by iterate 20 (first | done | assumption | (apply fun h => Fr.trans h (by assumption))), i + 1, by omega, rfl, ?_⟩
      unfold valsOk at hok ⊢
      rw [List.take_add_one, hx, List.all_append, hok]
      simp [ht]
  · intro _
    have hei : l.take i = l := List.take_of_length_le (by omega)
    rw [hei] at hok
    exact hR _ _ he hok.symm
end Go.PT
namespace Go.PT
attribute [local irreducible] ldT ldsT stT stsT allocT boxT bldT bslT nilT fadT ixaT fldT extT lenT pickT binT notT cviT opT opU condT clT clvT ivT loopT arT ndT World.cell? World.frozen? World.alloc World.drew World.setCell Blk Cells Sl
theorem c_specForm {p : Pg} {c : Cl} {n : Int} {w : World} {R : VW} {u ut us : Value} (hp : Sl kMeth Any w [] p u) (ht : Sl kPair Any w [] c.temps ut) (hs : Sl kPair Any w [] c.stack us) (hpl : p.length ≤ 1073741824) (htl : c.temps.length ≤ 1073741824)
    (hsl : c.stack.length ≤ 1073741824) (hn : 0 ≤ n) (hn' : n ≤ 1073741824) (hR : ∀ w', Ext w w' → R (.bool (form p n c)) w') :
    clT PR 165 [.agg #[u], .agg #[.int .i64 c.method, .int .i64 c.pc, ut, us, .int .i64 c.sender, .bool c.dead], .int .i64 n] w R := by
  replace hR : ∀ w' b, Ext w w' → b = form p n c → R (.bool b) w' := fun w' b e h => h ▸ hR w' e
  refine Fspec_l11Form.cl ?_
  unfold Fspec_l11Form
  refine box_of' (fun b1 w1 e1 hb1 (k1 : Blk w1 b1 [u]) => ?_)
  refine box_of' (fun b2 w2 e2 hb2 (k2 : Blk w2 b2 [.int .i64 c.method, .int .i64 c.pc, ut, us, .int .i64 c.sender, .bool c.dead]) => ?_)
  repeat' (first | (first | refine fad_of ?_ | refine gtr_of ?_ | refine eql_of ?_ | refine neq_of ?_ | refine not_of ?_) | ((refine sub_of (by (omega)) (by (omega)) ?_)) | ((apply ld_of; (case h => iterate 14 (first | done | exact Blk.cell (by assumption) (by exact rfl) | exact Cells.at (by assumption) _ (by exact rfl) | apply cell_drew | (apply Ext.cell (by assumption)))))) | (refine Sl.len_of (by assumption) ?_) | ((fail)) | (first | refine condNIn_of (fun _ => ?_) (fun _ => ?_) | refine condIn_of (fun _ => ?_) (fun _ => ?_) | refine condNe_of (fun _ => ?_) (fun _ => ?_) | refine condGt_of (fun _ => ?_) (fun _ => ?_) | refine condP_of (fun _ => ?_) (fun _ => ?_) | refine condN_of (fun _ => ?_) (fun _ => ?_) | refine cond_of (fun _ => ?_) (fun _ => ?_)) | refine c_specIn ?_ | refine meth_ix (by assumption) (by omega) (by omega) (fun _ _ _ _ _ => ?_) | refine c_specVals (by iterate 14 (first | done | assumption | apply Sl.drew | (apply fun h => Sl.ext h (by assumption)))) (by omega) (by omega) (by omega) (fun _ _ => ?_))
  all_goals exact hR _ _ (by iterate 20 (first | done | assumption | apply Fr.drew | (apply fun h => Fr.trans h (by assumption)))) (by unfold form; first | (simp [*, inB_t, inB_f]; done) | (simp [*, inB_t, inB_f]; intros; omega) | (simp [*, inB]; intros; omega))
theorem valOk_ne2 {n : Int} {v : V} (h : ¬ v.1 = 2) : valOk n v = valOk 0 v := by unfold valOk; simp [h]
theorem c_specSaid {p : Pg} {l : List V} {u us : Value} {w : World} {R : VW} (hp : Sl kMeth Any w [] p u) (hs : Sl kPair Any w [] l us) (hpl : p.length ≤ 1073741824) (hsl : l.length ≤ 1073741824) (hR : ∀ w', Ext w w' → R (.bool (saidOk p l)) w') :
    clT PR 141 [.agg #[u], us] w R := by
  refine Fspec_l11Said.cl ?_
  unfold Fspec_l11Said
  refine box_of' (fun b1 w1 e1 hb1 (k1 : Blk w1 b1 [u]) => ?_)
  refine loop_of (fun m s w' => Ext w1 w' ∧ ∃ i : Nat, i + m = l.length ∧ s = [us, .pointer (some ⟨b1, 0, none⟩), .bool false, .int .i64 i] ∧ saidOk p (l.take i) = true) ?_ (m := l.length) ⟨Fr.refl _ _, 0, by omega, rfl, rfl⟩
  rintro m s w' Kn ⟨he, i, hi, rfl, hok⟩ hKn
  intro _
  simp only [List.headD_cons, List.tail_cons]
  repeat (first | ((refine lss_of ?_)) | (refine Sl.len_of (by assumption) ?_))
  refine condLt_of (fun hc => ?_) (fun hc => ?_)
  · have hil : i < l.length := by omega
    refine pair_ix (i := (i : Int)) hs (by omega) (by omega) (fun b o hcell => ?_)
    have hx : l[i]? = some (pairAt l i) := by unfold pairAt; rw [Int.toNat_natCast, List.getD_eq_getElem?_getD, List.getElem?_eq_getElem hil]; rfl
    generalize pairAt l (i : Int) = v at hx hcell
    have he' : Ext w w' := e1.trans he
    apply lds_of
    case h => iterate 14 (first | done | assumption | (apply fun h => Cells.ext h (by assumption)))
    case hn => exact rfl
    refine al_of' (fun b2 w2 e2 hb2 k2 => ?_)
    refine sts_of' (vs := [.int .i64 v.1, .int .i64 v.2]) rfl k2 rfl rfl (by simp [Value.oneCell']) (fun w3 e3 k3 => ?_)
    have z1 := he.size
    have e4 : Ext w1 w3 := he.trans' (S' := fun x => x = b2) (e2.fr.trans e3) (fun _ _ h => h) (fun x hx e => by omega)
    have no : valOk p.length v = false → ∀ w', Ext w w' → R (.bool false) w' := fun hf w' e => by
      have : saidOk p l = false := by unfold saidOk; rw [List.all_eq_false]; exact ⟨_, List.mem_of_getElem? hx, by rw [hf]; simp⟩
      rw [← this]; exact hR w' e
    have yes : valOk p.length v = true → ∀ w', Ext w1 w' → Kn [us, .pointer (some ⟨b1, 0, none⟩), .bool false, .int .i64 ((i : Int) + 1)] w' := fun ht w' e => by
      refine hKn (m - 1) _ _ (by omega) ⟨e, i + 1, by omega, rfl, ?_⟩
      unfold saidOk at hok ⊢
      rw [List.take_add_one, hx, List.all_append, hok]
      simp [ht]
    clear e2 e3 hKn
    have e5 : Ext w w3 := e1.trans e4
    have k1' : Blk w3 b1 [u] := k1.ext e4
    repeat' (first | (first | refine fad_of ?_ | refine eql_of ?_ | refine neq_of ?_ | refine not_of ?_) | (first | refine add_of (by (omega)) (by (omega)) ?_ | refine sub_of (by (omega)) (by (omega)) ?_) | (first | (apply ld_of; (case h => iterate 14 (first | done | exact Blk.cell (by assumption) (by exact rfl)))) | (apply lds_of; (case h => iterate 14 (first | done | exact Blk.cells (by assumption))); (case hn => exact rfl))) | (refine Sl.len_of (by assumption) ?_) | (first | refine condP_t (by omega) ?_ | refine condP_f (by omega) ?_) | (first | refine condNIn_of (fun _ => ?_) (fun _ => ?_) | refine condP_of (fun _ => ?_) (fun _ => ?_) | refine condN_of (fun _ => ?_) (fun _ => ?_)) | refine c_specIn ?_ | refine c_specVal (v := v) (by omega) (by omega) (fun _ _ => ?_))
    all_goals first | (intro _; exact no (by first | (rw [valOk_ne2 (by omega)]; assumption) | (unfold valOk; (simp [*, inB_t, inB_f]; done))) _ (by iterate 20 (first | done | assumption | (apply fun h => Fr.trans h (by assumption))))) | exact yes (by first | (rw [valOk_ne2 (by omega)]; assumption) | (unfold valOk; (simp [*, inB_t, inB_f]; done))) _ (by iterate 20 (first | done | assumption | (apply fun h => Fr.trans h (by assumption))))
  · intro _
    have hei : l.take i = l := List.take_of_length_le (by omega)
    rw [hei] at hok
    have := hR _ (e1.trans he)
    rwa [hok] at this
end Go.PT
namespace Go.PT
attribute [local irreducible] ldT ldsT stT stsT allocT boxT bldT bslT nilT fadT ixaT fldT extT lenT pickT binT notT cviT opT opU condT clT clvT ivT loopT arT ndT World.cell? World.frozen? World.alloc World.drew World.setCell Blk Cells Sl
def opOk (p : Pg) (m : Meth) (op : Int × Int) : Bool :=
  if op.1 = 1 then inB op.2 0 99 else if op.1 = 2 ∨ op.1 = 3 then inB op.2 0 (m.temps - 1) else if op.1 = 7 ∨ op.1 = 8 then inB op.2 0 (m.ops.length - 1) else if op.1 = 9 then inB op.2 0 (p.length - 1) else
  if op.1 = 13 ∨ op.1 = 14 then inB op.2 0 3 else inB op.1 1 18 && decide (op.2 = 0)
def methOk (p : Pg) (m : Meth) : Bool := inB m.args 0 2 && (inB m.temps m.args 4 && (decide ((m.ops.length : Int) ≤ 14) && m.ops.all (opOk p m)))
def progOk (p : Pg) : Bool := inB p.length 1 4 && (decide ((methAt p 0).args = 0) && p.all (methOk p))
theorem c_specOp {p : Pg} {m : Meth} {op : Int × Int} {w : World} {R : VW} {u um : Value} (hp : Sl kMeth Any w [] p u) (hm : Sl kPair Any w [] m.ops um) (hpl : p.length ≤ 1073741824) (hml : m.ops.length ≤ 1073741824) (ht0 : 0 ≤ m.temps) (ht1 : m.temps ≤ 4)
    (hR : ∀ w', Ext w w' → R (.bool (opOk p m op)) w') : clT PR 229 [.agg #[u], .agg #[.int .i64 m.args, .int .i64 m.temps, um], .agg #[.int .i64 op.1, .int .i64 op.2]] w R := by
  replace hR : ∀ w' b, Ext w w' → b = opOk p m op → R (.bool b) w' := fun w' b e h => h ▸ hR w' e
  refine Fspec_l1Op.cl ?_
  unfold Fspec_l1Op
  refine box_of' (fun b1 w1 e1 hb1 (k1 : Blk w1 b1 [u]) => ?_)
  refine box_of' (fun b2 w2 e2 hb2 (k2 : Blk w2 b2 [.int .i64 m.args, .int .i64 m.temps, um]) => ?_)
  refine box_of' (fun b3 w3 e3 hb3 (k3 : Blk w3 b3 [.int .i64 op.1, .int .i64 op.2]) => ?_)
  repeat' (first | (first | refine fad_of ?_ | refine eql_of ?_) | ((refine sub_of (by (omega)) (by (omega)) ?_)) | ((apply ld_of; (case h => iterate 14 (first | done | exact Blk.cell (by assumption) (by exact rfl) | (apply Ext.cell (by assumption)))))) | (refine Sl.len_of (by assumption) ?_) | ((refine condP_t (by omega) ?_)) | (first | refine condIn_of (fun _ => ?_) (fun _ => ?_) | refine condP_of (fun _ => ?_) (fun _ => ?_)) | refine c_specIn ?_ | (first | (unfold Fspec_l1Op.j1; intro _) | (unfold Fspec_l1Op.j2; intro _) | (unfold Fspec_l1Op.j3; intro _) | (unfold Fspec_l1Op.j4; intro _) | (unfold Fspec_l1Op.j5; intro _) | (unfold Fspec_l1Op.j6; intro _)))
  all_goals exact hR _ _ (by iterate 20 (first | done | assumption | (apply fun h => Fr.trans h (by assumption)))) (by unfold opOk; (simp [*, inB_t, inB_f]; done))
theorem c_specMethod {p : Pg} {m : Meth} {w : World} {R : VW} {u um : Value} (hp : Sl kMeth Any w [] p u) (hm : Sl kPair Any w [] m.ops um) (hpl : p.length ≤ 1073741824) (hml : m.ops.length ≤ 1073741824)
    (hR : ∀ w', Ext w w' → R (.bool (methOk p m)) w') : clT PR 187 [.agg #[u], .agg #[.int .i64 m.args, .int .i64 m.temps, um]] w R := by
  replace hR : ∀ w' b, Ext w w' → b = methOk p m → R (.bool b) w' := fun w' b e h => h ▸ hR w' e
  refine Fspec_l1Method.cl ?_
  unfold Fspec_l1Method
  refine box_of' (fun b1 w1 e1 hb1 (k1 : Blk w1 b1 [u]) => ?_)
  refine box_of' (fun b2 w2 e2 hb2 (k2 : Blk w2 b2 [.int .i64 m.args, .int .i64 m.temps, um]) => ?_)
  repeat' (first | (first | refine fad_of ?_ | refine gtr_of ?_ | refine not_of ?_) | ((fail)) | ((apply ld_of; (case h => iterate 14 (first | done | exact Blk.cell (by assumption) (by exact rfl))))) | (refine Sl.len_of (by assumption) ?_) | ((fail)) | (first | refine condNIn_of (fun _ => ?_) (fun _ => ?_) | refine condGt_of (fun _ => ?_) (fun _ => ?_)) | refine c_specIn ?_)
  · exact hR _ _ (by iterate 20 (first | done | assumption | (apply fun h => Fr.trans h (by assumption)))) (by unfold methOk; (simp [*, inB_t, inB_f]; done))
  · exact hR _ _ (by iterate 20 (first | done | assumption | (apply fun h => Fr.trans h (by assumption)))) (by unfold methOk; (simp [*, inB_t, inB_f]; done))
  · exact hR _ _ (by iterate 20 (first | done | assumption | (apply fun h => Fr.trans h (by assumption)))) (by unfold methOk; (simp [*, inB_t, inB_f]; intros; omega))
  · rename_i h1 h2 h3
    refine loop_of (fun n s w' => Ext w2 w' ∧ ∃ i : Nat, i + n = m.ops.length ∧ s = [.pointer (some ⟨b1, 0, none⟩), .pointer (some ⟨b2, 0, none⟩), .bool false, .int .i64 i] ∧ (m.ops.take i).all (opOk p m) = true) ?_ (m := m.ops.length) ⟨Fr.refl _ _, 0, by omega, rfl, rfl⟩
    rintro n s w' Kn ⟨he, i, hi, rfl, hok⟩ hKn
    intro _
    simp only [List.headD_cons, List.tail_cons]
    repeat (first | (first | refine fad_of ?_ | refine lss_of ?_) | ((apply ld_of; (case h => iterate 14 (first | done | exact Blk.cell (by assumption) (by exact rfl) | (apply Ext.cell (by assumption)))))) | (refine Sl.len_of (by assumption) ?_))
    refine condLt_of (fun hc => ?_) (fun hc => ?_)
    · have hil : i < m.ops.length := by omega
      repeat (first | ((refine fad_of ?_)) | (first | (apply ld_of; (case h => iterate 14 (first | done | exact Blk.cell (by assumption) (by exact rfl) | apply cell_drew | (apply Ext.cell (by assumption))))) | (apply lds_of; (case h => iterate 14 (first | done | exact Blk.cells (by assumption) | apply Cells.drew | (apply fun h => Cells.ext h (by assumption)))); (case hn => exact rfl))))
      refine pair_ix (i := (i : Int)) hm (by omega) (by omega) (fun b o hcell => ?_)
      have hx : m.ops[i]? = some (pairAt m.ops i) := by unfold pairAt; rw [Int.toNat_natCast, List.getD_eq_getElem?_getD, List.getElem?_eq_getElem hil]; rfl
      generalize pairAt m.ops (i : Int) = v at hx hcell
      repeat (((apply lds_of; (case h => iterate 14 (first | done | assumption | apply Cells.drew | (apply fun h => Cells.ext h (by assumption)))); (case hn => exact rfl))))
      refine c_specOp (m := m) (op := v) (by iterate 14 (first | done | assumption | apply Sl.drew | (apply fun h => Sl.ext h (by assumption)))) (by iterate 14 (first | done | assumption | apply Sl.drew | (apply fun h => Sl.ext h (by assumption)))) (by omega) (by omega) (by omega) (by omega) (fun w3 e3 => ?_)
      repeat (((refine not_of ?_)))
      refine condN_of (fun hf => ?_) (fun ht => ?_)
      · intro _
        refine hR _ _ (by iterate 20 (first | done | assumption | apply Fr.drew | (apply fun h => Fr.trans h (by assumption)))) ?_
        have : m.ops.all (opOk p m) = false := by rw [List.all_eq_false]; exact ⟨_, List.mem_of_getElem? hx, by rw [hf]; simp⟩
        unfold methOk
        rw [this]; simp
      · repeat (((refine add_of (by (omega)) (by (omega)) ?_)))
        refine hKn (n - 1) _ _ (by omega) ⟨by iterate 20 (first | done | assumption | apply Fr.drew | (apply fun h => Fr.trans h (by assumption))), i + 1, by omega, rfl, ?_⟩
        rw [List.take_add_one, hx, List.all_append, hok]
        simp [ht]
    · intro _
      have hei : m.ops.take i = m.ops := List.take_of_length_le (by omega)
      rw [hei] at hok
      exact hR _ _ (by iterate 20 (first | done | assumption | (apply fun h => Fr.trans h (by assumption)))) (by unfold methOk; rw [hok]; (simp [*, inB_t, inB_f]; done))
theorem c_specProgOk {p : Pg} {w : World} {R : VW} {u : Value} (hp : Sl kMeth Any w [] p u) (hpl : p.length ≤ 1073741824) (hml : ∀ m ∈ p, m.ops.length ≤ 1073741824)
    (hR : ∀ w', Ext w w' → R (.bool (progOk p)) w') : clT PR 127 [.agg #[u]] w R := by
  replace hR : ∀ w' b, Ext w w' → b = progOk p → R (.bool b) w' := fun w' b e h => h ▸ hR w' e
  refine Fspec_ProgOk.cl ?_
  unfold Fspec_ProgOk
  refine box_of' (fun b1 w1 e1 hb1 (k1 : Blk w1 b1 [u]) => ?_)
  repeat' (first | (first | refine fad_of ?_ | refine neq_of ?_ | refine not_of ?_) | ((fail)) | ((apply ld_of; (case h => iterate 14 (first | done | exact Blk.cell (by assumption) (by exact rfl) | exact Cells.at (by assumption) _ (by exact rfl) | (apply Ext.cell (by assumption)))))) | (refine Sl.len_of (by assumption) ?_) | ((fail)) | (first | refine condNIn_of (fun _ => ?_) (fun _ => ?_) | refine condNe_of (fun _ => ?_) (fun _ => ?_)) | refine c_specIn ?_ | refine meth_ix (by assumption) (by omega) (by omega) (fun _ _ _ _ _ => ?_))
  · exact hR _ _ (by iterate 20 (first | done | assumption)) (by unfold progOk; (simp [*, inB_t, inB_f]; done))
  · exact hR _ _ (by iterate 20 (first | done | assumption)) (by unfold progOk; (simp [*, inB_t, inB_f]; done))
  · rename_i h1 b0 o0 u0 hc0 hs0 h2
    refine loop_of (fun n s w' => Ext w1 w' ∧ ∃ i : Nat, i + n = p.length ∧ s = [.pointer (some ⟨b1, 0, none⟩), .bool false, .int .i64 i] ∧ (p.take i).all (methOk p) = true) ?_ (m := p.length) ⟨Fr.refl _ _, 0, by omega, rfl, rfl⟩
    rintro n s w' Kn ⟨he, i, hi, rfl, hok⟩ hKn
    intro _
    simp only [List.headD_cons, List.tail_cons]
    repeat (first | (first | refine fad_of ?_ | refine lss_of ?_) | ((apply ld_of; (case h => iterate 14 (first | done | exact Blk.cell (by assumption) (by exact rfl) | (apply Ext.cell (by assumption)))))) | (refine Sl.len_of (by assumption) ?_))
    refine condLt_of (fun hc => ?_) (fun hc => ?_)
    · have hil : i < p.length := by omega
      repeat (first | ((refine fad_of ?_)) | (first | (apply ld_of; (case h => iterate 14 (first | done | exact Blk.cell (by assumption) (by exact rfl) | apply cell_drew | (apply Ext.cell (by assumption))))) | (apply lds_of; (case h => iterate 14 (first | done | exact Blk.cells (by assumption) | apply Cells.drew | (apply fun h => Cells.ext h (by assumption)))); (case hn => exact rfl))))
      refine meth_ix (i := (i : Int)) hp (by omega) (by omega) (fun b o um hcell hm => ?_)
      have hx : p[i]? = some (methAt p i) := by unfold methAt; rw [Int.toNat_natCast, List.getD_eq_getElem?_getD, List.getElem?_eq_getElem hil]; rfl
      generalize methAt p (i : Int) = v at hx hcell hm
      repeat (((apply lds_of; (case h => iterate 14 (first | done | assumption | apply Cells.drew | (apply fun h => Cells.ext h (by assumption)))); (case hn => exact rfl))))
      refine c_specMethod (m := v) (by iterate 14 (first | done | assumption | apply Sl.drew | (apply fun h => Sl.ext h (by assumption)))) (by iterate 14 (first | done | assumption | apply Sl.drew | (apply fun h => Sl.ext h (by assumption)))) (by omega) (hml _ (List.mem_of_getElem? hx)) (fun w3 e3 => ?_)
      repeat (((refine not_of ?_)))
      refine condN_of (fun hf => ?_) (fun ht => ?_)
      · intro _
        refine hR _ _ (by iterate 20 (first | done | assumption | apply Fr.drew | (apply fun h => Fr.trans h (by assumption)))) ?_
        have : p.all (methOk p) = false := by rw [List.all_eq_false]; exact ⟨_, List.mem_of_getElem? hx, by rw [hf]; simp⟩
        unfold progOk
        rw [this]; simp
      · repeat (((refine add_of (by (omega)) (by (omega)) ?_)))
        refine hKn (n - 1) _ _ (by omega) ⟨by iterate 20 (first | done | assumption | apply Fr.drew | (apply fun h => Fr.trans h (by assumption))), i + 1, by omega, rfl, ?_⟩
        rw [List.take_add_one, hx, List.all_append, hok]
        simp [ht]
    · intro _
      have hei : p.take i = p := List.take_of_length_le (by omega)
      rw [hei] at hok
      exact hR _ _ (by iterate 20 (first | done | assumption | (apply fun h => Fr.trans h (by assumption)))) (by unfold progOk; rw [hok]; (simp [*, inB_t, inB_f]; done))
end Go.PT
namespace Go.PT
attribute [local irreducible] ldT ldsT stT stsT allocT boxT bldT bslT nilT fadT ixaT fldT extT lenT pickT binT notT cviT opT opU condT clT clvT ivT loopT arT ndT World.cell? World.frozen? World.alloc World.drew World.setCell Blk Cells Sl
def chainS (cs : List Cl) : Nat → List Int → Int → List Int
  | 0, out, at' => if at' < 0 then out else []
  | k + 1, out, at' => if at' < 0 then out else if cs.length ≤ at' then [] else if (callAt cs at').dead then [] else chainS cs k (out ++ [at']) (callAt cs at').sender
def chain (h : Hp) : List Int := chainS h.calls h.calls.length [] h.now
structure HeapV (w : World) (h : Hp) (uc us : Value) : Prop where
  calls : Sl kCall Any w [] h.calls uc
  said : Sl kPair Any w [] h.said us
  n : h.calls.length ≤ 1073741824
  nt : ∀ c ∈ h.calls, c.temps.length ≤ 1073741824 ∧ c.stack.length ≤ 1073741824
  ns : h.said.length ≤ 1073741824
def heapCells (h : Hp) (uc us : Value) : List Value := [uc, .int .i64 h.now, .int .i64 h.born, us, .int .i64 h.code]
theorem c_specChain {h : Hp} {w : World} {R : VW} {uc us : Value} (hh : HeapV w h uc us)
    (hR : ∀ w' v, Ext w w' → Sl kInt Any w' [] (chain h) v → R v w') : clT PR 166 [.agg #[uc, .int .i64 h.now, .int .i64 h.born, us, .int .i64 h.code]] w R := by
  refine Fspec_l11Chain.cl ?_
  unfold Fspec_l11Chain
  have hn := hh.n
  have hS := hh.calls
  refine box_of' (fun b1 w1 e1 hb1 (k1 : Blk w1 b1 [uc, .int .i64 h.now, .int .i64 h.born, us, .int .i64 h.code]) => ?_)
  refine bsl_of' rfl rfl rfl (fun b2 w2 e2 hb2 k2 => ?_)
  repeat (first | ((refine fad_of ?_)) | ((apply ld_of; (case h => iterate 14 (first | done | exact Blk.cell (by assumption) (by exact rfl) | (apply Ext.cell (by assumption)))))))
  refine loop_of (fun m s wx => ∃ out v L a, s = [.pointer (some ⟨b1, 0, none⟩), .slice none 0 0, v, .int .i64 a] ∧ out.length + m = h.calls.length ∧ Ext w1 wx ∧ Sl kInt (Own L) wx [] out v ∧ Born w1 L ∧ Lim L wx ∧ chain h = chainS h.calls m out a) ?_ (m := h.calls.length)
    ⟨[], _, lab1 b2 [], h.now, rfl, by simp, e2, sl_empty k2, lab1_born hb2, lab1_lim k2.lt, rfl⟩
  rintro m s wx Kn ⟨out, v, L, a, rfl, hm, he, hO, hbn, hlm, hch⟩ hKn
  intro _
  simp only [List.headD_cons, List.tail_cons]
  repeat (((refine geq_of ?_)))
  refine condGe_of (fun ha => ?_) (fun ha => ?_)
  · have stop : chain h = [] → ∀ {w3 : World} {b : Nat}, Ext wx w3 → Blk w3 b [] → Fspec_l11Chain.r3 (.pointer (some ⟨b1, 0, none⟩)) (.slice (some ⟨b, 0, none⟩) 0 0) v (.int .i64 a) w3 R := by
      intro hc w3 b e hk
      intro _
      refine hR _ _ ((e1.trans he).trans e) ?_
      rw [hc]
      exact Sl.fresh (ok := Any) hk.lt
    repeat (first | (first | refine fad_of ?_ | refine geq_of ?_) | ((apply ld_of; (case h => iterate 14 (first | done | exact Blk.cell (by assumption) (by exact rfl) | (apply Ext.cell (by assumption)))))) | (refine Sl.len_of (by assumption) ?_))
    refine condGe_of (fun hl => ?_) (fun hl => ?_)
    · refine bsl_of' rfl rfl rfl (fun b3 w3 e3 hb3 k3 => ?_)
      have hm0 : m = 0 := by omega
      subst hm0
      exact stop (by rw [hch]; unfold chainS; rw [if_neg (by omega)]) e3 k3
    · obtain ⟨m, rfl⟩ : ∃ k, m = k + 1 := ⟨m - 1, by omega⟩
      have step := hch
      unfold chainS at step
      rw [if_neg (by omega)] at step
      repeat (first | (first | refine fad_of ?_ | refine geq_of ?_) | ((apply ld_of; (case h => iterate 14 (first | done | exact Blk.cell (by assumption) (by exact rfl) | (apply Ext.cell (by assumption)))))) | (refine Sl.len_of (by assumption) ?_))
      refine condGe_of (fun hl2 => ?_) (fun hl2 => ?_)
      · refine bsl_of' rfl rfl rfl (fun b3 w3 e3 hb3 k3 => ?_)
        exact stop (by rw [step, if_pos hl2]) e3 k3
      · rw [if_neg (by omega)] at step
        repeat (first | ((refine fad_of ?_)) | ((apply ld_of; (case h => iterate 14 (first | done | exact Blk.cell (by assumption) (by exact rfl) | (apply Ext.cell (by assumption)))))))
        refine call_ix hS (by omega) (by omega) (fun b o u u' hcell hu hu' => ?_)
        have hew : Ext w wx := e1.trans he
        repeat (first | ((refine fad_of ?_)) | ((apply ld_of; (case h => iterate 14 (first | done | exact Cells.at (by assumption) _ (by exact rfl) | (apply Ext.cell (by assumption)))))))
        refine cond_of (fun hd => ?_) (fun hd => ?_)
        · refine bsl_of' rfl rfl rfl (fun b3 w3 e3 hb3 k3 => ?_)
          exact stop (by rw [step, hd]; rfl) e3 k3
        · rw [hd] at step
          refine bsl_of' rfl rfl rfl (fun b3 w3 e3 hb3 k3 => ?_)
          refine app_lit (f := fun n => [Value.int .i64 n]) [a] (e := 3) (by kernel_rfl) (hO.keepX e3) k3 rfl (by simp; omega) (hlm.fr e3) (fun v' w' L' ef hlx hlm2 hO2 => ?_)
          have z1 := he.size
          have z3 := e3.size
          have e4 : Ext w1 w' := (he.trans e3).trans' ef (fun _ _ h => h) (fun x hx hLx => by have := hbn x _ hLx; omega)
          clear hew ef
          repeat (first | ((refine fad_of ?_)) | ((apply ld_of; (case h => iterate 14 (first | done | exact Blk.cell (by assumption) (by exact rfl) | (apply Ext.cell (by assumption)))))))
          refine call_ix hS (by omega) (by omega) (fun b o u u' hcell hu hu' => ?_)
          repeat (first | ((refine fad_of ?_)) | ((apply ld_of; (case h => iterate 14 (first | done | exact Cells.at (by assumption) _ (by exact rfl) | (apply Ext.cell (by assumption)))))))
          exact hKn m _ _ (by omega) ⟨out ++ [a], v', L', _, rfl, by simp; omega, e4, hO2, hbn.lx hlx (by omega), hlm2, by simpa using step⟩
  · intro _
    have : chain h = out := by rw [hch]; cases m <;> (unfold chainS; rw [if_pos ha])
    exact hR _ _ (e1.trans he) (by rw [this]; exact hO.any)
end Go.PT
namespace Go.PT
attribute [local irreducible] ldT ldsT stT stsT allocT boxT bldT bslT nilT fadT ixaT fldT extT lenT pickT binT notT cviT opT opU condT clT clvT ivT loopT arT ndT World.cell? World.frozen? World.alloc World.drew World.setCell Blk Cells Sl
theorem chainS_range {cs : List Cl} : ∀ (k : Nat) (out : List Int) (a : Int), (∀ x ∈ out, 0 ≤ x ∧ x < cs.length) → ∀ x ∈ chainS cs k out a, 0 ≤ x ∧ x < cs.length
  | 0, out, a, h, x, hx => by
    unfold chainS at hx
    split at hx
    · exact h x hx
    · simp at hx
  | k + 1, out, a, h, x, hx => by
    unfold chainS at hx
    split at hx
    · exact h x hx
    · split at hx
      · simp at hx
      · split at hx
        · simp at hx
        · refine chainS_range k _ _ (fun y hy => ?_) x hx
          rcases List.mem_append.mp hy with hy | hy
          · exact h y hy
          · rw [List.mem_singleton.mp hy]; omega
theorem chain_range (h : Hp) : ∀ x ∈ chain h, 0 ≤ x ∧ x < h.calls.length := chainS_range _ _ _ (by simp)
def room (h : Hp) (i : Int) : Bool := decide (((callAt h.calls i).stack.length : Int) < 6)
def wait (h : Hp) : Bool := (chain h).tail.all (room h)
def liveN (cs : List Cl) : Int := (cs.filter (fun c => !c.dead)).length
def heapOk (p : Pg) (h : Hp) : Bool :=
  progOk p && (inB h.now (-1) (h.calls.length - 1) && (inB h.born 1 30 && (decide ((h.calls.length : Int) ≤ h.born) && (inB h.code 0 3 && (saidOk p h.said && ((decide (h.code = 1) == decide (h.now < 0)) &&
    (h.calls.all (form p h.calls.length) && ((decide (h.now < 0) || !(callAt h.calls h.now).dead) && (decide (((chain h).length : Int) = liveN h.calls) && wait h)))))))))
theorem HeapV.ext {w w' : World} {h : Hp} {uc us : Value} (hh : HeapV w h uc us) (e : Ext w w') : HeapV w' h uc us := ⟨hh.calls.ext e, hh.said.ext e, hh.n, hh.nt, hh.ns⟩
theorem c_specWait {h : Hp} {w : World} {R : VW} {uc us : Value} (hh : HeapV w h uc us)
    (hR : ∀ w', Ext w w' → R (.bool (wait h)) w') : clT PR 167 [.agg #[uc, .int .i64 h.now, .int .i64 h.born, us, .int .i64 h.code]] w R := by
  replace hR : ∀ w' b, Ext w w' → b = wait h → R (.bool b) w' := fun w' b e h => h ▸ hR w' e
  refine Fspec_l11Wait.cl ?_
  unfold Fspec_l11Wait
  have hn := hh.n
  have hS := hh.calls
  refine box_of' (fun b1 w1 e1 hb1 (k1 : Blk w1 b1 [uc, .int .i64 h.now, .int .i64 h.born, us, .int .i64 h.code]) => ?_)
  repeat (((apply lds_of; (case h => iterate 14 (first | done | exact Blk.cells (by assumption))); (case hn => exact rfl))))
  refine c_specChain (hh.ext e1) (fun w2 v e2 hv => ?_)
  have hcl : (chain h).length ≤ h.calls.length := by
    have : ∀ (k : Nat) (out : List Int) (a : Int), (chainS h.calls k out a).length ≤ out.length + k := by
      intro k
      induction k with
      | zero => intro out a; unfold chainS; split <;> simp
      | succ k ih =>
        intro out a
        unfold chainS
        split
        · omega
        · split
          · simp
          · split
            · simp
            · have := ih (out ++ [a]) (callAt h.calls a).sender
              simp at this ⊢; omega
    have := this h.calls.length [] h.now
    simpa [chain] using this
  have hcr := chain_range h
  refine loop_of (fun m s wx => Ext w2 wx ∧ ∃ i : Nat, 1 ≤ i ∧ (i + m = (chain h).length ∨ (m = 0 ∧ i = 1 ∧ chain h = [])) ∧ s = [.pointer (some ⟨b1, 0, none⟩), .bool false, v, .int .i64 i] ∧ ((chain h).take i).tail.all (room h) = true) ?_ (m := (chain h).length - 1)
    ⟨Fr.refl _ _, 1, by omega, by
      cases hc : chain h with
      | nil => right; simp
      | cons a l => left; simp; omega, rfl, by cases chain h <;> simp⟩
  rintro m s wx Kn ⟨he, i, hi1, hi, rfl, hok⟩ hKn
  intro _
  simp only [List.headD_cons, List.tail_cons]
  repeat (first | ((refine lss_of ?_)) | (refine Sl.len_of (by assumption) ?_))
  refine condLt_of (fun hc => ?_) (fun hc => ?_)
  · have hil : i < (chain h).length := by omega
    have hi : i + m = (chain h).length := by
      rcases hi with h1 | ⟨_, _, h3⟩
      · exact h1
      · rw [h3] at hil; simp at hil
    have hx : (chain h)[i]? = some (intAt (chain h) i) := by unfold intAt; rw [Int.toNat_natCast, List.getD_eq_getElem?_getD, List.getElem?_eq_getElem hil]; rfl
    have hr := hcr _ (List.mem_of_getElem? hx)
    repeat (first | ((refine fad_of ?_)) | ((apply ld_of; (case h => iterate 14 (first | done | exact Blk.cell (by assumption) (by exact rfl) | apply cell_drew | (apply Ext.cell (by assumption)))))))
    refine int_ix (i := (i : Int)) hv (by omega) (by omega) (fun b o hcell => ?_)
    generalize intAt (chain h) (i : Int) = a at hx hr hcell
    repeat (((apply ld_of; (case h => iterate 14 (first | done | assumption | apply cell_drew | (apply Ext.cell (by assumption)))))))
    refine call_ix hS (by omega) (by omega) (fun b o u u' hcell hu hu' => ?_)
    repeat (first | (first | refine fad_of ?_ | refine geq_of ?_) | ((apply ld_of; (case h => iterate 14 (first | done | exact Cells.at (by assumption) _ (by exact rfl) | apply cell_drew | (apply Ext.cell (by assumption)))))) | (refine Sl.len_of (by assumption) ?_))
    refine condGe_of (fun hg => ?_) (fun hg => ?_)
    · intro _
      refine hR _ _ (by iterate 20 (first | done | assumption | apply Fr.drew | (apply fun h => Fr.trans h (by assumption)))) ?_
      symm
      unfold wait
      rw [List.all_eq_false]
      refine ⟨a, ?_, by unfold room; simp; omega⟩
      have : (chain h).tail[i - 1]? = some a := by rw [List.getElem?_tail, show i - 1 + 1 = i by omega]; exact hx
      exact List.mem_of_getElem? this
    · repeat (((refine add_of (by (omega)) (by (omega)) ?_)))
      refine hKn (m - 1) _ _ (by omega) ⟨by iterate 20 (first | done | assumption | apply Fr.drew), i + 1, by omega, .inl (by omega), rfl, ?_⟩
      rw [List.take_add_one, hx]
      rw [List.tail_append_of_ne_nil (by intro h0; have h9 := congrArg List.length h0; rw [List.length_take, List.length_nil] at h9; omega), List.all_append, hok]
      simp [room]; omega
  · intro _
    refine hR _ _ (by iterate 20 (first | done | assumption | (apply fun h => Fr.trans h (by assumption)))) ?_
    have : (chain h).take i = chain h := List.take_of_length_le (by omega)
    rw [this] at hok
    exact hok.symm
theorem c_specHeapOk {p : Pg} {h : Hp} {w : World} {R : VW} {u uc us : Value} (hp : Sl kMeth Any w [] p u) (hpl : p.length ≤ 1073741824) (hml : ∀ m ∈ p, m.ops.length ≤ 1073741824) (hh : HeapV w h uc us)
    (hR : ∀ w', Ext w w' → R (.bool (heapOk p h)) w') : clT PR 92 [.agg #[u], .agg #[uc, .int .i64 h.now, .int .i64 h.born, us, .int .i64 h.code]] w R := by
  replace hR : ∀ w' b, Ext w w' → b = heapOk p h → R (.bool b) w' := fun w' b e h => h ▸ hR w' e
  refine Fspec_HeapOk.cl ?_
  unfold Fspec_HeapOk
  have hn := hh.n
  have hS := hh.calls
  have hD := hh.said
  have hns := hh.ns
  refine box_of' (fun b1 w1 e1 hb1 (k1 : Blk w1 b1 [u]) => ?_)
  refine box_of' (fun b2 w2 e2 hb2 (k2 : Blk w2 b2 [uc, .int .i64 h.now, .int .i64 h.born, us, .int .i64 h.code]) => ?_)
  repeat' (first | (first | refine fad_of ?_ | refine lss_of ?_ | refine gtr_of ?_ | refine eql_of ?_ | refine not_of ?_) | ((refine sub_of (by (omega)) (by (omega)) ?_)) | (first | (apply ld_of; (case h => iterate 14 (first | done | exact Blk.cell (by assumption) (by exact rfl) | (apply Ext.cell (by assumption))))) | (apply lds_of; (case h => iterate 14 (first | done | exact Blk.cells (by assumption) | (apply fun h => Cells.ext h (by assumption)))); (case hn => exact rfl))) | (refine Sl.len_of (by assumption) ?_) | ((fail)) | (first | refine condNIn_of (fun _ => ?_) (fun _ => ?_) | refine condGt_of (fun _ => ?_) (fun _ => ?_) | refine condN_of (fun _ => ?_) (fun _ => ?_)) | refine c_specIn ?_ | refine c_specProgOk (by iterate 14 (first | done | assumption | (apply fun h => Sl.ext h (by assumption)))) (by assumption) (by assumption) (fun _ _ => ?_) | refine c_specSaid (by iterate 14 (first | done | assumption | (apply fun h => Sl.ext h (by assumption)))) (by iterate 14 (first | done | assumption | (apply fun h => Sl.ext h (by assumption)))) (by omega) (by omega) (fun _ _ => ?_) | refine neqB_of (by kernel_rfl) ?_)
  any_goals exact hR _ _ (by iterate 20 (first | done | assumption | (apply fun h => Fr.trans h (by assumption)))) (by unfold heapOk; first | (simp [*, inB_t, inB_f]; done) | (simp [*, inB_t, inB_f]; intros; omega))
  · rename_i w3 e3 h1 h2 h3 h4 h5 w4 e4 h6 h7
    have pre : ∀ b, heapOk p h = b ↔ (h.calls.all (form p h.calls.length) && ((decide (h.now < 0) || !(callAt h.calls h.now).dead) && (decide (((chain h).length : Int) = liveN h.calls) && wait h))) = b := by
      intro b
      unfold heapOk
      rw [h1, inB_t h2.1 h2.2, inB_t h3.1 h3.2, decide_eq_true h4, inB_t h5.1 h5.2, h6, h7]
      simp only [Bool.true_and]
    replace hR : ∀ w' b, Ext w w' → (h.calls.all (form p h.calls.length) && ((decide (h.now < 0) || !(callAt h.calls h.now).dead) && (decide (((chain h).length : Int) = liveN h.calls) && wait h))) = b → R (.bool b) w' := fun w' b e hb => hR w' b e ((pre b).mpr hb).symm
    clear pre
    have e5 : Ext w2 w4 := e3.trans e4
    clear e3 e4
    refine loop_of (fun m s w' => Ext w4 w' ∧ ∃ i : Nat, i + m = h.calls.length ∧ s = [.pointer (some ⟨b1, 0, none⟩), .pointer (some ⟨b2, 0, none⟩), .bool false, .int .i64 h.calls.length, .int .i64 (liveN (h.calls.take i)), .int .i64 i] ∧ (h.calls.take i).all (form p h.calls.length) = true) ?_
      (m := h.calls.length) ⟨Fr.refl _ _, 0, by omega, rfl, rfl⟩
    rintro m s w' Kn ⟨he, i, hi, rfl, hok⟩ hKn
    intro _
    simp only [List.headD_cons, List.tail_cons]
    have hlv : 0 ≤ liveN (h.calls.take i) ∧ liveN (h.calls.take i) ≤ i := by
      unfold liveN
      have h1 := List.length_filter_le (fun c : Cl => !c.dead) (h.calls.take i)
      have h2 : (h.calls.take i).length ≤ i := by rw [List.length_take]; omega
      omega
    repeat (((refine lss_of ?_)))
    refine condLt_of (fun hc => ?_) (fun hc => ?_)
    · have hil : i < h.calls.length := by omega
      have hx : h.calls[i]? = some (callAt h.calls i) := by unfold callAt; rw [Int.toNat_natCast, List.getD_eq_getElem?_getD, List.getElem?_eq_getElem hil]; rfl
      repeat (first | ((refine fad_of ?_)) | (first | (apply ld_of; (case h => iterate 14 (first | done | exact Blk.cell (by assumption) (by exact rfl) | apply cell_drew | (apply Ext.cell (by assumption))))) | (apply lds_of; (case h => iterate 14 (first | done | exact Blk.cells (by assumption) | apply Cells.drew | (apply fun h => Cells.ext h (by assumption)))); (case hn => exact rfl))))
      refine call_ix (i := (i : Int)) hS (by omega) (by omega) (fun b o u1 u2 hcell hu1 hu2 => ?_)
      repeat (((apply lds_of; (case h => iterate 14 (first | done | assumption | apply Cells.drew | (apply fun h => Cells.ext h (by assumption)))); (case hn => exact rfl))))
      have hnt := hh.nt _ (List.mem_of_getElem? hx)
      refine c_specForm (c := callAt h.calls i) (by iterate 14 (first | done | assumption | apply Sl.drew | (apply fun h => Sl.ext h (by assumption)))) (by iterate 14 (first | done | assumption | apply Sl.drew | (apply fun h => Sl.ext h (by assumption)))) (by iterate 14 (first | done | assumption | apply Sl.drew | (apply fun h => Sl.ext h (by assumption)))) (by omega) (by omega) (by omega) (by omega) (by omega) (fun w5 e6 => ?_)
      repeat (((refine not_of ?_)))
      refine condN_of (fun hf => ?_) (fun ht => ?_)
      · intro _
        refine hR _ _ (by iterate 20 (first | done | assumption | apply Fr.drew | (apply fun h => Fr.trans h (by assumption)))) ?_
        have : h.calls.all (form p h.calls.length) = false := by rw [List.all_eq_false]; exact ⟨_, List.mem_of_getElem? hx, by rw [hf]; simp⟩
        rw [this]; rfl
      · repeat (first | ((refine fad_of ?_)) | ((apply ld_of; (case h => iterate 14 (first | done | exact Blk.cell (by assumption) (by exact rfl) | apply cell_drew | (apply Ext.cell (by assumption)))))))
        refine call_ix (i := (i : Int)) hS (by omega) (by omega) (fun b o u1 u2 hcell hu1 hu2 => ?_)
        have hok' : (h.calls.take (i + 1)).all (form p h.calls.length) = true := by rw [List.take_add_one, hx, List.all_append, hok]; simp [ht]
        have hlive : ∀ d, (callAt h.calls i).dead = d → liveN (h.calls.take (i + 1)) = liveN (h.calls.take i) + (if d then 0 else 1) := by
          intro d hd
          unfold liveN
          rw [List.take_add_one, hx, List.filter_append, List.length_append]
          cases d <;> simp [hd]
        repeat (first | (first | refine fad_of ?_ | refine not_of ?_) | ((apply ld_of; (case h => iterate 14 (first | done | exact Cells.at (by assumption) _ (by exact rfl) | apply cell_drew | (apply Ext.cell (by assumption)))))))
        refine condN_of (fun hd => ?_) (fun hd => ?_)
        · have := hlive _ hd
          repeat (((refine add_of (by (omega)) (by (omega)) ?_)))
          refine hKn (m - 1) _ _ (by omega) ⟨by iterate 20 (first | done | assumption | apply Fr.drew | (apply fun h => Fr.trans h (by assumption))), i + 1, by omega, ?_, hok'⟩
          rw [this]; rfl
        · have := hlive _ hd
          repeat (((refine add_of (by (omega)) (by (omega)) ?_)))
          refine hKn (m - 1) _ _ (by omega) ⟨by iterate 20 (first | done | assumption | apply Fr.drew | (apply fun h => Fr.trans h (by assumption))), i + 1, by omega, ?_, hok'⟩
          rw [this]; simp
    · intro _
      have hei : h.calls.take i = h.calls := List.take_of_length_le (by omega)
      rw [hei] at hok ⊢
      rw [hok] at hR
      clear hKn
      have hW : HeapV w' h uc us := hh.ext (by iterate 20 (first | done | assumption | (apply fun h => Fr.trans h (by assumption))))
      have fin : (decide (h.now < 0) || !(callAt h.calls h.now).dead) = true → ∀ {w' : World}, Ext w4 w' → clT PR 166 [.agg #[uc, .int .i64 h.now, .int .i64 h.born, us, .int .i64 h.code]] w' fun t94 w12 =>
          lenT t94 fun t95 => binT .eql t95 (.int .i64 (liveN h.calls)) fun t97 => condT t97 (ldsT 5 (.pointer (some ⟨b2, 0, none⟩)) w12 fun t100 => clT PR 167 [t100] w12 fun t101 w13 => R t101 w13) (R (.bool false) w12) := by
        intro hd w' he
        rw [hd] at hR
        refine c_specChain (hh.ext (by iterate 20 (first | done | assumption | (apply fun h => Fr.trans h (by assumption))))) (fun w6 v e6 hv => ?_)
        repeat (first | ((refine eql_of ?_)) | (refine Sl.len_of (by assumption) ?_))
        refine condP_of (fun hl => ?_) (fun hl => ?_)
        · repeat (((apply lds_of; (case h => iterate 14 (first | done | exact Blk.cells (by assumption) | (apply fun h => Cells.ext h (by assumption)))); (case hn => exact rfl))))
          refine c_specWait (hh.ext (by iterate 20 (first | done | assumption | (apply fun h => Fr.trans h (by assumption))))) (fun w7 e7 => ?_)
          refine hR _ _ (by iterate 20 (first | done | assumption | (apply fun h => Fr.trans h (by assumption)))) ?_
          rw [decide_eq_true hl]; simp
        · refine hR _ _ (by iterate 20 (first | done | assumption | (apply fun h => Fr.trans h (by assumption)))) ?_
          rw [decide_eq_false hl]; simp
      repeat (first | (first | refine fad_of ?_ | refine lss_of ?_) | ((apply ld_of; (case h => iterate 14 (first | done | exact Blk.cell (by assumption) (by exact rfl) | (apply Ext.cell (by assumption)))))))
      refine condLt_of (fun hneg => ?_) (fun hneg => ?_)
      · repeat (((apply lds_of; (case h => iterate 14 (first | done | exact Blk.cells (by assumption) | (apply fun h => Cells.ext h (by assumption)))); (case hn => exact rfl))))
        exact fin (by rw [decide_eq_true hneg]; rfl) he
      · repeat (first | ((refine fad_of ?_)) | ((apply ld_of; (case h => iterate 14 (first | done | exact Blk.cell (by assumption) (by exact rfl) | (apply Ext.cell (by assumption)))))))
        refine call_ix hS (by omega) (by omega) (fun b o u1 u2 hcell hu1 hu2 => ?_)
        repeat (first | (first | refine fad_of ?_ | refine not_of ?_) | ((apply ld_of; (case h => iterate 14 (first | done | exact Cells.at (by assumption) _ (by exact rfl) | (apply Ext.cell (by assumption)))))))
        refine condN_of (fun hd => ?_) (fun hd => ?_)
        · repeat (((apply lds_of; (case h => iterate 14 (first | done | exact Blk.cells (by assumption) | (apply fun h => Cells.ext h (by assumption)))); (case hn => exact rfl))))
          exact fin (by rw [hd]; simp) he
        · refine hR _ _ (by iterate 20 (first | done | assumption | (apply fun h => Fr.trans h (by assumption)))) ?_
          rw [hd, decide_eq_false (by omega : ¬ h.now < 0)]; rfl
end Go.PT
namespace Go.PT
def pathF (cs : List Cl) : Nat → Int → Option (List Int)
  | 0, a => if a < 0 then some [] else none
  | k + 1, a => if a < 0 then some [] else if (callAt cs a).dead then none else (pathF cs k (callAt cs a).sender).map (a :: ·)
def walkI (cs : List Cl) (now : Int) : Nat → Int → Bool
  | 0, a => decide (a < 0)
  | k + 1, a => if a < 0 then false else if (callAt cs a).dead then false else if a ≠ now ∧ ((callAt cs a).stack.length : Int) = 6 then false else walkI cs now k (callAt cs a).sender
theorem chainS_path {cs : List Cl} (hs : ∀ c ∈ cs, c.sender < cs.length) : ∀ (k : Nat) (out : List Int) (a : Int), a < cs.length → chainS cs k out a = match pathF cs k a with | some l => out ++ l | none => []
  | 0, out, a, ha => by
    unfold chainS pathF
    split <;> simp
  | k + 1, out, a, ha => by
    unfold chainS pathF
    split
    · simp
    · rename_i h0
      rw [if_neg (by omega)]
      split
      · rfl
      · have hmem : callAt cs a ∈ cs := by
          unfold callAt
          rw [List.getD_eq_getElem?_getD, List.getElem?_eq_getElem (by omega)]
          exact List.getElem_mem _
        rw [chainS_path hs k _ _ (hs _ hmem)]
        cases pathF cs k (callAt cs a).sender <;> simp
theorem pathF_len {cs : List Cl} : ∀ (k : Nat) (a : Int) (l : List Int), pathF cs k a = some l → l.length ≤ k ∧ ∀ k', l.length ≤ k' → pathF cs k' a = some l
  | 0, a, l, h => by
    unfold pathF at h
    split at h
    · rename_i h0
      injection h with h
      subst h
      exact ⟨Nat.le_refl _, fun k' _ => by cases k' <;> (unfold pathF; rw [if_pos h0])⟩
    · cases h
  | k + 1, a, l, h => by
    unfold pathF at h
    split at h
    · rename_i h0
      injection h with h
      subst h
      exact ⟨Nat.zero_le _, fun k' _ => by cases k' <;> (unfold pathF; rw [if_pos h0])⟩
    · rename_i h0
      split at h
      · cases h
      · rename_i hd
        obtain ⟨l', h1, rfl⟩ := Option.map_eq_some_iff.mp h
        obtain ⟨h2, h3⟩ := pathF_len k _ l' h1
        refine ⟨by simpa using h2, fun k' hk' => ?_⟩
        cases k' with
        | zero => simp at hk'
        | succ k' =>
          unfold pathF
          rw [if_neg h0, if_neg hd, h3 k' (by simpa using hk')]
          rfl
theorem walkI_path {cs : List Cl} {now : Int} : ∀ (k : Nat) (a : Int), walkI cs now k a = match pathF cs k a with | some l => decide (l.length = k) && l.all (fun x => decide (x = now) || decide (((callAt cs x).stack.length : Int) ≠ 6)) | none => false
  | 0, a => by
    unfold walkI pathF
    by_cases h : a < 0 <;> simp [h]
  | k + 1, a => by
    unfold walkI pathF
    split
    · simp
    · split
      · rfl
      · rw [walkI_path k]
        cases hp : pathF cs k (callAt cs a).sender with
        | none => split <;> rfl
        | some l =>
          simp only [Option.map_some, List.length_cons, List.all_cons]
          by_cases h1 : a = now <;> by_cases h2 : ((callAt cs a).stack.length : Int) = 6 <;> simp [h1, h2]
theorem path_once {cs : List Cl} : ∀ (k : Nat) (a : Int) (l : List Int), pathF cs k a = some l → ∀ x ∈ l, ∃ l', pathF cs k x = some l' ∧ l'.length ≤ l.length ∧ (l'.length = l.length → l.head? = some x)
  | 0, a, l, h, x, hx => by
    unfold pathF at h
    split at h
    · injection h with h; subst h; simp at hx
    · cases h
  | k + 1, a, l, h, x, hx => by
    have h0 := h
    unfold pathF at h
    split at h
    · injection h with h; subst h; simp at hx
    · split at h
      · cases h
      · obtain ⟨l', h1, rfl⟩ := Option.map_eq_some_iff.mp h
        rcases List.mem_cons.mp hx with rfl | hx
        · exact ⟨_, h0, Nat.le_refl _, fun _ => rfl⟩
        · obtain ⟨m, q1, q2, q3⟩ := path_once k _ l' h1 x hx
          obtain ⟨q4, q5⟩ := pathF_len k x m q1
          exact ⟨m, q5 _ (by omega), by simp; omega, fun e => by simp at e; omega⟩
theorem path_tail {cs : List Cl} {k : Nat} {a : Int} {l : List Int} (h : pathF cs k a = some l) : ∀ x ∈ l.tail, x ≠ a := by
  intro x hx e
  subst e
  cases k with
  | zero =>
    unfold pathF at h
    split at h
    · injection h with h; subst h; simp at hx
    · cases h
  | succ k =>
    have h0 := h
    unfold pathF at h
    split at h
    · injection h with h; subst h; simp at hx
    · split at h
      · cases h
      · obtain ⟨l', h1, rfl⟩ := Option.map_eq_some_iff.mp h
        have hx' : x ∈ l' := hx
        obtain ⟨m, q1, q2, q3⟩ := path_once k _ l' h1 x hx'
        obtain ⟨_, q5⟩ := pathF_len k x m q1
        have := q5 (k + 1) (by obtain ⟨q, _⟩ := pathF_len k x m q1; omega)
        rw [h0] at this
        injection this with this
        have := congrArg List.length this
        simp at this
        omega
theorem liveN_le (cs : List Cl) : 0 ≤ liveN cs ∧ liveN cs ≤ cs.length := by
  unfold liveN
  have := List.length_filter_le (fun c : Cl => !c.dead) cs
  omega
theorem liveN_pos {cs : List Cl} {c : Cl} (h : c ∈ cs) (hd : c.dead = false) : 0 < liveN cs := by
  unfold liveN
  have : c ∈ cs.filter (fun c : Cl => !c.dead) := List.mem_filter.mpr ⟨h, by simp [hd]⟩
  have := List.length_pos_of_mem this
  omega
theorem chain_walk {h : Hp} (hs : ∀ c ∈ h.calls, c.sender < h.calls.length ∧ (c.stack.length : Int) ≤ 6) (hn : h.now < h.calls.length) :
    ((decide (h.now < 0) || !(callAt h.calls h.now).dead) && (decide (((chain h).length : Int) = liveN h.calls) && wait h)) = walkI h.calls h.now (liveN h.calls).toNat h.now := by
  have hl := liveN_le h.calls
  have hc : chain h = match pathF h.calls h.calls.length h.now with | some l => l | none => [] := by
    unfold chain
    rw [chainS_path (fun c hc => (hs c hc).1) _ _ _ hn]
    cases pathF h.calls h.calls.length h.now <;> simp
  rw [walkI_path]
  by_cases hneg : h.now < 0
  · have e1 : ∀ k, pathF h.calls k h.now = some [] := fun k => by cases k <;> (unfold pathF; rw [if_pos hneg])
    rw [e1] at hc ⊢
    simp only at hc
    unfold wait
    rw [hc]
    simp [hneg]
    omega
  · have hmem : callAt h.calls h.now ∈ h.calls := by
      unfold callAt
      rw [List.getD_eq_getElem?_getD, List.getElem?_eq_getElem (by omega)]
      exact List.getElem_mem _
    by_cases hd : (callAt h.calls h.now).dead = true
    · have e1 : ∀ k, pathF h.calls k h.now = none := fun k => by
        cases k with
        | zero => unfold pathF; rw [if_neg hneg]
        | succ k => unfold pathF; rw [if_neg hneg, if_pos hd]
      rw [e1]
      simp [hneg, hd]
    · have hd' : (callAt h.calls h.now).dead = false := by simpa using hd
      have hpos := liveN_pos hmem hd'
      rw [hd', decide_eq_false hneg]
      simp only [Bool.not_false, Bool.or_true, Bool.false_or, Bool.true_and]
      cases hp : pathF h.calls (liveN h.calls).toNat h.now with
      | none =>
        simp only
        rw [hc]
        cases hp2 : pathF h.calls h.calls.length h.now with
        | none => simp; omega
        | some l =>
          simp only
          have : ¬ ((l.length : Int) = liveN h.calls) := fun e => by
            have := (pathF_len _ _ _ hp2).2 (liveN h.calls).toNat (by omega)
            rw [hp] at this; cases this
          simp [this]
      | some l =>
        obtain ⟨q1, q2⟩ := pathF_len _ _ _ hp
        rw [q2 _ (by omega)] at hc
        simp only at hc ⊢
        unfold wait
        rw [hc]
        by_cases hll : l.length = (liveN h.calls).toNat
        · rw [decide_eq_true (by omega : (l.length : Int) = liveN h.calls), decide_eq_true hll]
          simp only [Bool.true_and]
          have ht := path_tail hp
          have hr := chain_range h
          rw [hc] at hr
          have hhead : ∀ x, l.head? = some x → x = h.now := by
            intro x hx
            cases hk : (liveN h.calls).toNat with
            | zero => omega
            | succ k =>
              rw [hk] at hp
              unfold pathF at hp
              rw [if_neg hneg, if_neg hd] at hp
              obtain ⟨l', _, rfl⟩ := Option.map_eq_some_iff.mp hp
              simpa using hx.symm
          have roomEq : ∀ x ∈ l, room h x = decide (((callAt h.calls x).stack.length : Int) ≠ 6) := by
            intro x hx
            have := hr x hx
            have hm : callAt h.calls x ∈ h.calls := by
              unfold callAt
              rw [List.getD_eq_getElem?_getD, List.getElem?_eq_getElem (by omega)]
              exact List.getElem_mem _
            have := (hs _ hm).2
            unfold room
            rw [decide_eq_decide]; omega
          cases l with
          | nil => simp
          | cons a l =>
            have ha : a = h.now := hhead a rfl
            simp only [List.tail_cons, List.all_cons, ha, decide_true, Bool.true_or, Bool.true_and]
            rw [Bool.eq_iff_iff, List.all_eq_true, List.all_eq_true]
            refine forall_congr' fun x => forall_congr' fun hx => ?_
            rw [roomEq x (by simp [hx]), decide_eq_false (ht x hx), Bool.false_or]
        · rw [decide_eq_false hll, decide_eq_false (by omega : ¬ (l.length : Int) = liveN h.calls)]
          rfl
end Go.PT
namespace Go.PT
def putC (h : Hp) (i : Int) (c : Cl) : Hp := { h with calls := h.calls.set i.toNat c }
def nowC (h : Hp) : Cl := callAt h.calls h.now
def dieC (c : Cl) : Cl := { c with dead := true, stack := [], sender := -1 }
def dieH (h : Hp) (i : Int) : Hp := putC h i (dieC (callAt h.calls i))
def pushC (c : Cl) (v : V) : Cl := { c with stack := c.stack ++ [v] }
def pushH (h : Hp) (v : V) : Hp := putC h h.now (pushC (nowC h) v)
def saidV (h : Hp) (v : V) : V := if v.1 = 2 then (v.1, (callAt h.calls v.2).method) else v
def sayH (h : Hp) (v : V) : Hp := { h with said := h.said ++ [saidV h v] }
def newC (p : Pg) (k : Int) (args : List V) (s : Int) : Cl := ⟨k, 0, args ++ List.replicate ((methAt p k).temps - args.length).toNat (0, 0), [], s, false⟩
def callH (p : Pg) (h : Hp) (k : Int) (args : List V) : Hp :=
  if 30 ≤ h.born then { h with code := 3 } else { h with calls := h.calls ++ [newC p k args h.now], now := h.calls.length, born := h.born + 1 }
def leaveH (h : Hp) : Hp := { dieH h h.now with now := (nowC h).sender }
def retH (h : Hp) (v : V) : Hp :=
  if (nowC h).sender < 0 then { sayH (leaveH h) v with code := 1 } else pushH (leaveH h) v
def backL : Nat → Hp → Int → Hp
  | 0, h, _ => h
  | n + 1, h, to => if h.now = to then h else backL n (leaveH h) to
def backH (h : Hp) (to : Int) (v : V) : Hp :=
  if (callAt h.calls to).dead then { h with code := 2 } else pushH (backL h.calls.length h to) v
def bitV (b : Bool) : V := if b then (1, 1) else (1, 0)
def lookV (h : Hp) (op : Int × Int) (i : Int) : V :=
  if op.1 = 12 then (if (callAt h.calls i).sender ≥ 0 then (2, (callAt h.calls i).sender) else (0, 0))
  else if op.1 = 13 then (if op.2 < (callAt h.calls i).temps.length then pairAt (callAt h.calls i).temps op.2 else (0, 0))
  else if op.1 = 17 then bitV (callAt h.calls i).dead
  else if op.1 = 18 then (1, (callAt h.calls i).pc) else (0, 0)
def setT (h : Hp) (i a : Int) (v : V) : Hp := putC h i { callAt h.calls i with temps := (callAt h.calls i).temps.set a.toNat v }
def setPc (h : Hp) (a : Int) : Hp := putC h h.now { nowC h with pc := a }
def pokeH (h : Hp) (i a : Int) (v : V) : Hp := if a < (callAt h.calls i).temps.length then setT h i a v else h
def takes (p : Pg) (op : Int × Int) : Int × Int :=
  if op.1 = 1 ∨ op.1 = 2 ∨ op.1 = 11 then (0, 1) else
  if op.1 = 3 ∨ op.1 = 4 ∨ op.1 = 8 ∨ op.1 = 10 ∨ op.1 = 16 then (1, 0) else
  if op.1 = 5 ∨ op.1 = 6 then (2, 1) else
  if op.1 = 12 ∨ op.1 = 13 ∨ op.1 = 17 ∨ op.1 = 18 then (1, 1) else
  if op.1 = 14 then (2, 0) else if op.1 = 15 then (2, 1) else
  if op.1 = 9 then (if inB op.2 0 (p.length - 1) then ((methAt p op.2).args, 1) else (0, 0)) else (0, 0)
def kindsOk (op : Int × Int) (args : List V) : Bool :=
  if op.1 = 5 then decide ((pairAt args 0).1 = 1) && decide ((pairAt args 1).1 = 1)
  else if op.1 = 12 ∨ op.1 = 13 ∨ op.1 = 17 ∨ op.1 = 18 ∨ op.1 = 14 ∨ op.1 = 15 then decide ((pairAt args 0).1 = 2) else true
def madeV (op : Int × Int) (args : List V) : Option V :=
  if op.1 = 1 then some (1, op.2)
  else if op.1 = 5 then some (1, ((pairAt args 0).2 + (pairAt args 1).2).tmod 1000)
  else if op.1 = 6 then some (bitV (pairAt args 0 == pairAt args 1)) else none
def doH (p : Pg) (h : Hp) (op : Int × Int) (args : List V) : Hp :=
  match madeV op args with
  | some v => pushH h v
  | none =>
    if op.1 = 2 then pushH h (pairAt (nowC h).temps op.2)
    else if op.1 = 3 then setT h h.now op.2 (pairAt args 0)
    else if op.1 = 7 then setPc h op.2
    else if op.1 = 8 then (if (pairAt args 0).1 = 0 ∨ pairAt args 0 = (1, 0) then setPc h op.2 else h)
    else if op.1 = 9 then callH p h op.2 args
    else if op.1 = 10 then retH h (pairAt args 0)
    else if op.1 = 11 then pushH h (2, h.now)
    else if op.1 = 12 ∨ op.1 = 13 ∨ op.1 = 17 ∨ op.1 = 18 then pushH h (lookV h op (pairAt args 0).2)
    else if op.1 = 14 then pokeH h (pairAt args 0).2 op.2 (pairAt args 1)
    else if op.1 = 15 then backH h (pairAt args 0).2 (pairAt args 1)
    else if op.1 = 16 then sayH h (pairAt args 0) else h
def opsNow (p : Pg) (h : Hp) : List (Int × Int) := (methAt p (nowC h).method).ops
def opNow (p : Pg) (h : Hp) : Int × Int := pairAt (opsNow p h) (nowC h).pc
def leftNow (p : Pg) (h : Hp) : Int := (nowC h).stack.length - (takes p (opNow p h)).1
def tookH (p : Pg) (h : Hp) : Hp := putC h h.now { nowC h with stack := (nowC h).stack.take (leftNow p h).toNat, pc := (nowC h).pc + 1 }
def argsNow (p : Pg) (h : Hp) : List V := (nowC h).stack.drop (leftNow p h).toNat
def stepH (p : Pg) (h : Hp) : Hp :=
  if ((opsNow p h).length : Int) ≤ (nowC h).pc then { h with code := 2 }
  else if leftNow p h < 0 ∨ 6 < leftNow p h + (takes p (opNow p h)).2 then { h with code := 2 }
  else if kindsOk (opNow p h) (argsNow p h) = false then { h with code := 2 }
  else doH p (tookH p h) (opNow p h) (argsNow p h)
def runH (p : Pg) : Nat → Hp → Hp
  | 0, h => h
  | n + 1, h => if h.code = 0 then runH p n (stepH p h) else h
theorem callAt_set {cs : List Cl} {i j : Int} {c : Cl} (hi : 0 ≤ i) (hl : i < cs.length) (hj : 0 ≤ j) : callAt (cs.set i.toNat c) j = if j = i then c else callAt cs j := by
  unfold callAt
  rw [List.getD_eq_getElem?_getD, List.getD_eq_getElem?_getD, List.getElem?_set]
  by_cases h : j = i
  · subst h
    rw [if_pos rfl, if_pos (by omega), if_pos rfl]; rfl
  · rw [if_neg (by omega), if_neg h]
theorem callAt_app {cs : List Cl} {j : Int} {c : Cl} (hj : 0 ≤ j) : callAt (cs ++ [c]) j = if j < cs.length then callAt cs j else if j = cs.length then c else call0 := by
  unfold callAt
  rw [List.getD_eq_getElem?_getD, List.getD_eq_getElem?_getD]
  by_cases h : j < cs.length
  · rw [if_pos h, List.getElem?_append_left (by omega)]
  · rw [if_neg h, List.getElem?_append_right (by omega)]
    by_cases h2 : j = cs.length
    · rw [if_pos h2, show j.toNat - cs.length = 0 by omega]; rfl
    · rw [if_neg h2, List.getElem?_eq_none (by simp; omega)]; rfl
theorem callAt_mem {cs : List Cl} {i : Int} (h0 : 0 ≤ i) (h1 : i < cs.length) : callAt cs i ∈ cs := by
  unfold callAt
  rw [List.getD_eq_getElem?_getD, List.getElem?_eq_getElem (by omega)]
  exact List.getElem_mem _
theorem mem_callAt {cs : List Cl} {c : Cl} (h : c ∈ cs) : ∃ i : Int, 0 ≤ i ∧ i < cs.length ∧ callAt cs i = c := by
  obtain ⟨n, h1, h2⟩ := List.getElem_of_mem h
  refine ⟨n, by omega, by omega, ?_⟩
  unfold callAt
  rw [List.getD_eq_getElem?_getD, Int.toNat_natCast, List.getElem?_eq_getElem h1, ← h2]; rfl
theorem pairAt_mem {l : List V} {i : Int} (h0 : 0 ≤ i) (h1 : i < l.length) : pairAt l i ∈ l := by
  unfold pairAt
  rw [List.getD_eq_getElem?_getD, List.getElem?_eq_getElem (by omega)]
  exact List.getElem_mem _
theorem methAt_mem {p : Pg} {i : Int} (h0 : 0 ≤ i) (h1 : i < p.length) : methAt p i ∈ p := by
  unfold methAt
  rw [List.getD_eq_getElem?_getD, List.getElem?_eq_getElem (by omega)]
  exact List.getElem_mem _
def Way (cs : List Cl) : Int → List Int → Prop
  | a, [] => a < 0
  | a, x :: l => a = x ∧ 0 ≤ x ∧ x < cs.length ∧ (callAt cs x).dead = false ∧ Way cs (callAt cs x).sender l
theorem Way.congr {cs ds : List Cl} : ∀ {l : List Int} {a : Int}, Way cs a l → (∀ x ∈ l, x < cs.length → x < ds.length ∧ (callAt ds x).dead = (callAt cs x).dead ∧ (callAt ds x).sender = (callAt cs x).sender) → Way ds a l
  | [], a, h, _ => h
  | x :: l, a, ⟨h1, h2, h3, h4, h5⟩, hd => by
    obtain ⟨d1, d2, d3⟩ := hd x (by simp) h3
    refine ⟨h1, h2, d1, d2.trans h4, ?_⟩
    rw [d3]
    exact h5.congr (fun y hy => hd y (by simp [hy]))
theorem Way.range {cs : List Cl} : ∀ {l : List Int} {a : Int}, Way cs a l → ∀ x ∈ l, 0 ≤ x ∧ x < cs.length ∧ (callAt cs x).dead = false
  | x :: l, a, ⟨h1, h2, h3, h4, h5⟩, y, hy => by
    rcases List.mem_cons.mp hy with rfl | hy
    · exact ⟨h2, h3, h4⟩
    · exact h5.range y hy
theorem Way.path {cs : List Cl} : ∀ {l : List Int} {a : Int}, Way cs a l → ∀ k, l.length ≤ k → pathF cs k a = some l
  | [], a, h, k, _ => by
    have h : a < 0 := h
    cases k <;> (unfold pathF; rw [if_pos h])
  | x :: l, a, ⟨h1, h2, h3, h4, h5⟩, k, hk => by
    subst h1
    cases k with
    | zero => simp at hk
    | succ k =>
      unfold pathF
      rw [if_neg (by omega), h4, h5.path k (by simpa using hk)]
      rfl
theorem way_of_path {cs : List Cl} (hs : ∀ c ∈ cs, c.sender < cs.length) : ∀ {k : Nat} {a : Int} {l : List Int}, pathF cs k a = some l → a < cs.length → Way cs a l
  | 0, a, l, h, ha => by
    unfold pathF at h
    split at h
    · injection h with h; subst h; assumption
    · cases h
  | k + 1, a, l, h, ha => by
    unfold pathF at h
    split at h
    · injection h with h; subst h; assumption
    · split at h
      · cases h
      · rename_i h0 hd
        obtain ⟨l', h1, rfl⟩ := Option.map_eq_some_iff.mp h
        exact ⟨rfl, by omega, ha, by simpa using hd, way_of_path hs h1 (hs _ (callAt_mem (by omega) ha))⟩
theorem Way.det {cs : List Cl} {a : Int} {l m : List Int} (h : Way cs a l) (h' : Way cs a m) : l = m := by
  have h1 := h.path (max l.length m.length) (by omega)
  have h2 := h'.path (max l.length m.length) (by omega)
  rw [h1] at h2; exact Option.some.inj h2
theorem Way.nodup {cs : List Cl} : ∀ {l : List Int} {a : Int}, Way cs a l → l.Nodup
  | [], a, h => List.nodup_nil
  | x :: l, a, h => by
    have h5 := h.2.2.2.2
    refine List.nodup_cons.mpr ⟨fun hx => ?_, h5.nodup⟩
    have := path_tail (h.path _ (Nat.le_refl _)) x (by simpa using hx)
    exact this h.1.symm
theorem length_le_of_sub {α : Type} [DecidableEq α] : ∀ {l m : List α}, l.Nodup → (∀ x ∈ l, x ∈ m) → l.length ≤ m.length
  | [], m, _, _ => by simp
  | x :: l, m, h, hs => by
    have hx := hs x (by simp)
    obtain ⟨h1, h2⟩ := List.nodup_cons.mp h
    have := length_le_of_sub (m := m.erase x) h2 (fun y hy => by
      refine (List.mem_erase_of_ne ?_).mpr (hs y (by simp [hy]))
      intro e; subst e; exact h1 hy)
    rw [List.length_erase_of_mem hx] at this
    have := List.length_pos_of_mem hx
    simp; omega
theorem sub_of_length {α : Type} [DecidableEq α] {l m : List α} (h : l.Nodup) (hs : ∀ x ∈ l, x ∈ m) (hl : m.length ≤ l.length) : ∀ x ∈ m, x ∈ l := by
  intro x hx
  refine Classical.byContradiction fun hn => ?_
  have := length_le_of_sub (l := x :: l) (m := m) (List.nodup_cons.mpr ⟨hn, h⟩) (fun y hy => by
    rcases List.mem_cons.mp hy with rfl | hy
    · exact hx
    · exact hs y hy)
  simp at this; omega
def liveL (cs : List Cl) : List Int := ((List.range cs.length).map (fun n : Nat => (n : Int))).filter (fun x => !(callAt cs x).dead)
theorem mem_liveL {cs : List Cl} {x : Int} : x ∈ liveL cs ↔ 0 ≤ x ∧ x < cs.length ∧ (callAt cs x).dead = false := by
  unfold liveL
  rw [List.mem_filter, List.mem_map]
  constructor
  · rintro ⟨⟨n, h1, rfl⟩, h2⟩
    have := List.mem_range.mp h1
    exact ⟨by omega, by omega, by simpa using h2⟩
  · rintro ⟨h0, h1, h2⟩
    exact ⟨⟨x.toNat, List.mem_range.mpr (by omega), by omega⟩, by simp [h2]⟩
theorem liveL_nodup (cs : List Cl) : (liveL cs).Nodup := by
  unfold liveL
  have h : ((List.range cs.length).map (fun n : Nat => (n : Int))).Pairwise (· ≠ ·) :=
    List.Pairwise.map _ (fun a b h e => h (by have : (a : Int) = b := e; omega)) List.nodup_range
  exact h.filter _
theorem liveL_len (cs : List Cl) : ((liveL cs).length : Int) = liveN cs := by
  unfold liveN liveL
  have key : ∀ (xs pre : List Cl), ((((List.range' pre.length xs.length).map (fun n : Nat => (n : Int))).filter (fun x => !(callAt (pre ++ xs) x).dead)).length : Int) = (xs.filter (fun c => !c.dead)).length := by
    intro xs
    induction xs with
    | nil => intro pre; simp
    | cons c xs ih =>
      intro pre
      have h1 : callAt (pre ++ c :: xs) (pre.length : Int) = c := by
        unfold callAt
        rw [List.getD_eq_getElem?_getD, Int.toNat_natCast, List.getElem?_append_right (Nat.le_refl _)]
        simp
      have h2 := ih (pre ++ [c])
      simp only [List.length_append, List.length_cons, List.length_nil, Nat.zero_add, List.append_assoc, List.cons_append, List.nil_append] at h2
      rw [List.length_cons, List.range'_succ, List.map_cons, List.filter_cons, h1, List.filter_cons]
      cases hd : c.dead
      · simp only [Bool.not_false, if_true, List.length_cons]; omega
      · simp only [Bool.not_true]; simpa using h2
  have := key cs []
  simpa [List.range_eq_range'] using this
end Go.PT
namespace Go.PT
structure HOK (p : Pg) (h : Hp) : Prop where
  prog : progOk p = true
  now1 : -1 ≤ h.now
  now2 : h.now < h.calls.length
  born1 : 1 ≤ h.born
  born2 : h.born ≤ 30
  size : (h.calls.length : Int) ≤ h.born
  code1 : 0 ≤ h.code
  code2 : h.code ≤ 3
  said : saidOk p h.said = true
  ended : h.code = 1 ↔ h.now < 0
  forms : ∀ c ∈ h.calls, form p h.calls.length c = true
  way : ∃ l, Way h.calls h.now l ∧ (∀ x : Int, 0 ≤ x → x < h.calls.length → (callAt h.calls x).dead = false → x ∈ l) ∧ ∀ x ∈ l.tail, ((callAt h.calls x).stack.length : Int) < 6
structure FormP (p : Pg) (n : Int) (c : Cl) : Prop where
  m0 : 0 ≤ c.method
  m1 : c.method < p.length
  pc0 : 0 ≤ c.pc
  pc1 : c.pc ≤ (methAt p c.method).ops.length
  temps : (c.temps.length : Int) = (methAt p c.method).temps
  stack : (c.stack.length : Int) ≤ 6
  s0 : -1 ≤ c.sender
  s1 : c.sender < n
  tv : ∀ v ∈ c.temps, valOk n v = true
  sv : ∀ v ∈ c.stack, valOk n v = true
  dead : c.dead = true → c.sender = -1 ∧ c.stack = []
theorem form_iff {p : Pg} {n : Int} {c : Cl} : form p n c = true ↔ FormP p n c := by
  constructor
  · intro h
    unfold form valsOk at h
    simp only [Bool.and_eq_true, inB_iff, decide_eq_true_eq, List.all_eq_true, Bool.or_eq_true, Bool.not_eq_true'] at h
    obtain ⟨h1, h2, h3, h4, h5, h6, h7, h8⟩ := h
    exact ⟨h1.1, by omega, h2.1, h2.2, h3, h4, h5.1, by omega, h6, h7, fun hd => by
      rcases h8 with h8 | h8
      · rw [hd] at h8; cases h8
      · exact ⟨h8.1, List.length_eq_zero_iff.mp (by omega)⟩⟩
  · intro h
    unfold form valsOk
    simp only [Bool.and_eq_true, inB_iff, decide_eq_true_eq, List.all_eq_true, Bool.or_eq_true, Bool.not_eq_true']
    have := h.m1
    have := h.s1
    refine ⟨⟨h.m0, by omega⟩, ⟨h.pc0, h.pc1⟩, h.temps, h.stack, ⟨h.s0, by omega⟩, h.tv, h.sv, ?_⟩
    cases hd : c.dead
    · exact .inl rfl
    · obtain ⟨h1, h2⟩ := h.dead hd
      exact .inr ⟨h1, by rw [h2]; rfl⟩
theorem valOk_up {n m : Int} {v : V} (h : valOk n v = true) (hm : n ≤ m) : valOk m v = true := by
  unfold valOk at h ⊢
  split
  · simpa [*] using h
  · split
    · simpa [*] using h
    · split
      · simp only [*, if_true, if_false, ite_true, ite_false, inB_iff] at h ⊢
        rw [if_neg (by omega), if_neg (by omega), inB_iff] at h
        omega
      · simp [*] at h
theorem valOk_call {n : Int} {v : V} (h : valOk n v = true) (h2 : v.1 = 2) : 0 ≤ v.2 ∧ v.2 < n := by
  unfold valOk at h
  rw [h2, if_neg (by decide), if_neg (by decide), if_pos rfl, inB_iff] at h
  omega
theorem valOk_num {n : Int} {v : V} (h : valOk n v = true) (h2 : v.1 = 1) : 0 ≤ v.2 ∧ v.2 ≤ 999 := by
  unfold valOk at h
  rw [h2, if_neg (by decide), if_pos rfl, inB_iff] at h
  omega
theorem valOk_none {n : Int} {v : V} (h : valOk n v = true) (h2 : v.1 = 0) : v.2 = 0 := by
  unfold valOk at h
  rw [h2, if_pos rfl] at h
  simpa using h
theorem valOk_kind {n : Int} {v : V} (h : valOk n v = true) : v.1 = 0 ∨ v.1 = 1 ∨ v.1 = 2 := by
  unfold valOk at h
  by_cases h0 : v.1 = 0
  · exact .inl h0
  · by_cases h1 : v.1 = 1
    · exact .inr (.inl h1)
    · by_cases h2 : v.1 = 2
      · exact .inr (.inr h2)
      · simp [h0, h1, h2] at h
theorem ok_num {n x : Int} (h0 : 0 ≤ x) (h1 : x ≤ 999) : valOk n (1, x) = true := by unfold valOk; simp [inB_iff]; omega
theorem ok_call {n x : Int} (h0 : 0 ≤ x) (h1 : x < n) : valOk n (2, x) = true := by unfold valOk; simp [inB_iff]; omega
theorem ok_none {n : Int} : valOk n (0, 0) = true := by unfold valOk; simp
theorem ok_bit {n : Int} {b : Bool} : valOk n (bitV b) = true := by cases b <;> (unfold bitV; exact ok_num (by decide) (by decide))
theorem FormP.up {p : Pg} {n m : Int} {c : Cl} (h : FormP p n c) (hm : n ≤ m) : FormP p m c :=
  ⟨h.m0, h.m1, h.pc0, h.pc1, h.temps, h.stack, h.s0, by have := h.s1; omega, fun v hv => valOk_up (h.tv v hv) hm, fun v hv => valOk_up (h.sv v hv) hm, h.dead⟩
theorem chain_path {h : Hp} (hs : ∀ c ∈ h.calls, c.sender < h.calls.length) (hn : h.now < h.calls.length) : chain h = match pathF h.calls h.calls.length h.now with | some l => l | none => [] := by
  unfold chain
  rw [chainS_path hs _ _ _ hn]
  cases pathF h.calls h.calls.length h.now <;> simp
theorem Way.len {cs : List Cl} {l : List Int} {a : Int} (h : Way cs a l) : l.length ≤ cs.length := by
  have h1 := length_le_of_sub h.nodup (fun x hx => mem_liveL.mpr (h.range x hx))
  have h2 := liveL_len cs
  have h3 := (liveN_le cs).2
  omega
theorem hok_iff {p : Pg} {h : Hp} : heapOk p h = true ↔ HOK p h := by
  constructor
  · intro H
    unfold heapOk at H
    simp only [Bool.and_eq_true, inB_iff, decide_eq_true_eq, List.all_eq_true, beq_iff_eq, decide_eq_decide] at H
    obtain ⟨h1, h2, h3, h4, h5, h6, h7, h8, h9, h10, h11⟩ := H
    have hs : ∀ c ∈ h.calls, c.sender < h.calls.length := fun c hc => (form_iff.mp (h8 c hc)).s1
    have hc := chain_path hs (by omega)
    refine ⟨h1, h2.1, by omega, h3.1, h3.2, h4, h5.1, h5.2, h6, h7, h8, ?_⟩
    have mk : ∀ l, pathF h.calls h.calls.length h.now = some l → ∃ l, Way h.calls h.now l ∧ (∀ x : Int, 0 ≤ x → x < h.calls.length → (callAt h.calls x).dead = false → x ∈ l) ∧ ∀ x ∈ l.tail, ((callAt h.calls x).stack.length : Int) < 6 := by
      intro l hl
      rw [hl] at hc
      simp only at hc
      have hw := way_of_path hs hl (by omega)
      refine ⟨l, hw, fun x x0 x1 x2 => ?_, fun x hx => ?_⟩
      · refine sub_of_length hw.nodup (fun y hy => mem_liveL.mpr (hw.range y hy)) ?_ x (mem_liveL.mpr ⟨x0, x1, x2⟩)
        have := liveL_len h.calls
        rw [hc] at h10; omega
      · unfold wait at h11
        rw [hc, List.all_eq_true] at h11
        have := h11 x hx
        unfold room at this
        simpa using this
    cases hp : pathF h.calls h.calls.length h.now with
    | some l => exact mk l hp
    | none =>
      rw [hp] at hc
      simp only at hc
      rw [hc] at h10
      by_cases hn : h.now < 0
      · have : pathF h.calls h.calls.length h.now = some [] := by cases h.calls.length <;> (unfold pathF; rw [if_pos hn])
        rw [hp] at this; cases this
      · have hd : (callAt h.calls h.now).dead = false := by simpa [hn] using h9
        have := liveN_pos (callAt_mem (by omega) (by omega)) hd
        simp at h10; omega
  · intro H
    obtain ⟨l, hw, hcov, hroom⟩ := H.way
    have hs : ∀ c ∈ h.calls, c.sender < h.calls.length := fun c hc => (form_iff.mp (H.forms c hc)).s1
    have hc := chain_path hs H.now2
    have hp := hw.path h.calls.length hw.len
    rw [hp] at hc
    simp only at hc
    have hlen : (l.length : Int) = liveN h.calls := by
      rw [← liveL_len]
      have h1 := length_le_of_sub hw.nodup (fun x hx => mem_liveL.mpr (hw.range x hx))
      have h2 := length_le_of_sub (liveL_nodup h.calls) (fun x hx => by
        obtain ⟨a, b, c⟩ := mem_liveL.mp hx
        exact hcov x a b c)
      omega
    unfold heapOk
    simp only [Bool.and_eq_true, inB_iff, decide_eq_true_eq, List.all_eq_true, beq_iff_eq, decide_eq_decide]
    have := H.now2
    refine ⟨H.prog, ⟨H.now1, by omega⟩, ⟨H.born1, H.born2⟩, H.size, ⟨H.code1, H.code2⟩, H.said, H.ended, H.forms, ?_, by rw [hc]; exact hlen, ?_⟩
    · by_cases hn : h.now < 0
      · simp [hn]
      · cases l with
        | nil => exact absurd hw hn
        | cons x l => obtain ⟨rfl, _, _, hd, _⟩ := hw; simp [hd]
    · unfold wait
      rw [hc, List.all_eq_true]
      intro x hx
      unfold room
      simpa using hroom x hx
variable {p : Pg} {h : Hp}
theorem HOK.at (H : HOK p h) {i : Int} (h0 : 0 ≤ i) (h1 : i < h.calls.length) : FormP p h.calls.length (callAt h.calls i) := form_iff.mp (H.forms _ (callAt_mem h0 h1))
theorem HOK.now0 (H : HOK p h) (hr : h.code = 0) : 0 ≤ h.now := by
  have h1 := H.ended
  have h2 := H.now1
  rcases Int.lt_or_le h.now 0 with h3 | h3
  · have := h1.mpr h3; omega
  · exact h3
theorem putC_len (h : Hp) (i : Int) (c : Cl) : (putC h i c).calls.length = h.calls.length := by unfold putC; simp
theorem callAt_put {i j : Int} {c : Cl} (hi : 0 ≤ i) (hl : i < h.calls.length) (hj : 0 ≤ j) : callAt (putC h i c).calls j = if j = i then c else callAt h.calls j := callAt_set hi hl hj
theorem put_forms {n : Int} {i : Int} {c : Cl} (hn : ∀ c ∈ h.calls, form p n c = true) (hf : FormP p n c) : ∀ d ∈ (putC h i c).calls, form p n d = true := by
  intro d hd
  rcases List.mem_or_eq_of_mem_set hd with hd | rfl
  · exact hn d hd
  · exact form_iff.mpr hf
theorem HOK.put (H : HOK p h) {i : Int} {c : Cl} (h0 : 0 ≤ i) (h1 : i < h.calls.length) (hf : FormP p h.calls.length c) (hd : c.dead = (callAt h.calls i).dead) (hs : c.sender = (callAt h.calls i).sender)
    (hk : i = h.now ∨ c.stack.length ≤ (callAt h.calls i).stack.length) : HOK p (putC h i c) := by
  obtain ⟨l, hw, hcov, hroom⟩ := H.way
  refine ⟨H.prog, H.now1, by rw [putC_len]; exact H.now2, H.born1, H.born2, by rw [putC_len]; exact H.size, H.code1, H.code2, H.said, H.ended, by rw [putC_len]; exact put_forms H.forms hf, l, ?_, ?_, ?_⟩
  · refine hw.congr (fun x hx hl => ?_)
    have := hw.range x hx
    rw [callAt_put h0 h1 this.1, putC_len]
    refine ⟨hl, ?_, ?_⟩ <;> split <;> simp [*]
  · intro x x0 x1 x2
    rw [putC_len] at x1
    rw [callAt_put h0 h1 x0] at x2
    refine hcov x x0 x1 ?_
    split at x2
    · rename_i e; rw [e, ← hd]; exact x2
    · exact x2
  · intro x hx
    have hr := hw.range x (List.mem_of_mem_tail hx)
    have := hroom x hx
    rw [callAt_put h0 h1 hr.1]
    split
    · rename_i e
      subst e
      rcases hk with hk | hk
      · subst hk
        exact absurd rfl (path_tail (hw.path _ (Nat.le_refl _)) _ hx)
      · omega
    · exact this
theorem HOK.code (H : HOK p h) {k : Int} (hr : h.code ≠ 1) (h0 : 0 ≤ k) (h3 : k ≤ 3) (h1 : k ≠ 1) : HOK p { h with code := k } :=
  ⟨H.prog, H.now1, H.now2, H.born1, H.born2, H.size, h0, h3, H.said, ⟨fun e => absurd e h1, fun e => absurd (H.ended.mpr e) hr⟩, H.forms, H.way⟩
theorem HOK.say (H : HOK p h) {v : V} (hv : valOk p.length v = true) : HOK p { h with said := h.said ++ [v] } :=
  ⟨H.prog, H.now1, H.now2, H.born1, H.born2, H.size, H.code1, H.code2, by have := H.said; unfold saidOk at this ⊢; simp only [List.all_append, this, List.all_cons, hv, List.all_nil]; rfl, H.ended, H.forms, H.way⟩
theorem saidV_ok (H : HOK p h) {v : V} (hv : valOk h.calls.length v = true) : valOk p.length (saidV h v) = true := by
  unfold saidV
  split
  · rename_i h2
    obtain ⟨a, b⟩ := valOk_call hv h2
    have := H.at a b
    rw [h2]
    exact ok_call this.m0 this.m1
  · rename_i h2
    rw [valOk_ne2 h2]
    rwa [valOk_ne2 h2] at hv
theorem push_form {n : Int} {c : Cl} (hf : FormP p n c) {v : V} (hv : valOk n v = true) (hr : (c.stack.length : Int) < 6) (hd : c.dead = false) : FormP p n (pushC c v) :=
  ⟨hf.m0, hf.m1, hf.pc0, hf.pc1, hf.temps, by unfold pushC; simp; omega, hf.s0, hf.s1, hf.tv, fun u hu => by
    unfold pushC at hu
    rcases List.mem_append.mp hu with hu | hu
    · exact hf.sv u hu
    · rw [List.mem_singleton.mp hu]; exact hv, fun e => by
    have : c.dead = true := e
    rw [hd] at this; cases this⟩
theorem HOK.alive (H : HOK p h) (h0 : 0 ≤ h.now) : (nowC h).dead = false := by
  obtain ⟨l, hw, _⟩ := H.way
  cases l with
  | nil => have : h.now < 0 := hw; omega
  | cons x l => obtain ⟨rfl, _, _, hd, _⟩ := hw; exact hd
theorem HOK.push (H : HOK p h) (h0 : 0 ≤ h.now) {v : V} (hv : valOk h.calls.length v = true) (hr : ((nowC h).stack.length : Int) < 6) : HOK p (pushH h v) :=
  H.put h0 H.now2 (push_form (H.at h0 H.now2) hv hr (H.alive h0)) rfl rfl (.inl rfl)
theorem die_form {n : Int} {c : Cl} (hf : FormP p n c) (hn : 0 ≤ n) : FormP p n (dieC c) :=
  ⟨hf.m0, hf.m1, hf.pc0, hf.pc1, hf.temps, by unfold dieC; simp, by unfold dieC; simp, by unfold dieC; simp; omega, hf.tv, fun u hu => by unfold dieC at hu; simp at hu, fun _ => ⟨rfl, rfl⟩⟩
theorem leave_calls : (leaveH h).calls = (putC h h.now (dieC (nowC h))).calls := rfl
theorem leave_len : (leaveH h).calls.length = h.calls.length := by rw [leave_calls, putC_len]
theorem leave_way {l : List Int} (hw : Way h.calls h.now l) (h0 : 0 ≤ h.now) : Way (leaveH h).calls (leaveH h).now l.tail := by
  cases l with
  | nil => have : h.now < 0 := hw; omega
  | cons x l =>
    have hnd := hw.nodup
    obtain ⟨rfl, x0, x1, hd, hw'⟩ := hw
    have hnd := (List.nodup_cons.mp hnd).1
    refine Way.congr (cs := h.calls) hw' (fun y hy hl => ?_)
    have hr := hw'.range y hy
    rw [leave_len, leave_calls, callAt_put x0 x1 hr.1, if_neg (fun e : y = h.now => hnd (e ▸ hy))]
    exact ⟨hl, rfl, rfl⟩
theorem HOK.leaves (H : HOK p h) (hr : h.code = 0) : (∀ c ∈ (leaveH h).calls, form p (leaveH h).calls.length c = true) ∧
    ∃ l, Way (leaveH h).calls (leaveH h).now l ∧ (∀ x : Int, 0 ≤ x → x < (leaveH h).calls.length → (callAt (leaveH h).calls x).dead = false → x ∈ l) ∧ (∀ x ∈ l, ((callAt (leaveH h).calls x).stack.length : Int) < 6) ∧ l.length < h.calls.length + 1 := by
  have h0 := H.now0 hr
  have h1 := H.now2
  refine ⟨by rw [leave_len]; exact put_forms H.forms (die_form (H.at h0 h1) (by omega)), ?_⟩
  obtain ⟨l, hw, hcov, hroom⟩ := H.way
  have hlen := hw.len
  refine ⟨l.tail, leave_way hw h0, ?_, ?_, by rw [List.length_tail]; omega⟩
  · intro x x0 x1 x2
    rw [leave_len] at x1
    rw [leave_calls, callAt_put h0 h1 x0] at x2
    split at x2
    · cases x2
    · rename_i hne
      have := hcov x x0 x1 x2
      cases l with
      | nil => simp at this
      | cons y l =>
        obtain ⟨rfl, _⟩ := hw
        simpa [hne] using this
  · intro x hx
    have hr := hw.range x (List.mem_of_mem_tail hx)
    rw [leave_calls, callAt_put h0 h1 hr.1]
    split
    · unfold dieC; simp
    · exact hroom x hx
theorem HOK.leave (H : HOK p h) (hr : h.code = 0) (hs : 0 ≤ (nowC h).sender) : HOK p (leaveH h) ∧ ((nowC (leaveH h)).stack.length : Int) < 6 := by
  obtain ⟨hf, l, hw, hcov, hroom, hlen⟩ := H.leaves hr
  have hsend := H.at (H.now0 hr) H.now2
  refine ⟨⟨H.prog, ?_, ?_, H.born1, H.born2, by rw [leave_len]; exact H.size, H.code1, H.code2, H.said, ⟨fun e => ?_, fun e => ?_⟩, hf, l, hw, hcov, fun x hx => hroom x (List.mem_of_mem_tail hx)⟩, ?_⟩
  · exact hsend.s0
  · rw [leave_len]; exact hsend.s1
  · have : h.code = 1 := e
    omega
  · have : (nowC h).sender < 0 := e
    omega
  · cases l with
    | nil => have : (nowC h).sender < 0 := hw; omega
    | cons x l =>
      obtain ⟨hx, _⟩ := id hw
      have := hroom x (by simp)
      rw [← hx] at this
      exact this
theorem HOK.finish (H : HOK p h) (hr : h.code = 0) (hs : (nowC h).sender < 0) {v : V} (hv : valOk p.length v = true) : HOK p { leaveH h with said := h.said ++ [v], code := 1 } := by
  obtain ⟨hf, l, hw, hcov, hroom, hlen⟩ := H.leaves hr
  have hsend := H.at (H.now0 hr) H.now2
  refine ⟨H.prog, hsend.s0, by show (nowC h).sender < _; rw [leave_len]; exact hsend.s1, H.born1, H.born2, by rw [leave_len]; exact H.size, by show (0 : Int) ≤ 1; decide, by show (1 : Int) ≤ 3; decide, ?_, ⟨fun _ => hs, fun _ => rfl⟩, hf, l, hw, hcov, fun x hx => hroom x (List.mem_of_mem_tail hx)⟩
  have := H.said; unfold saidOk at this ⊢; simp only [List.all_append, this, List.all_cons, hv, List.all_nil]; rfl
theorem back_ok {to : Int} : ∀ (n : Nat) (l : List Int) (h : Hp), Way h.calls h.now l → HOK p h → h.code = 0 → to ∈ l → l.length ≤ n + 1 →
    HOK p (backL n h to) ∧ (backL n h to).now = to ∧ (backL n h to).calls.length = h.calls.length ∧ (backL n h to).code = 0 ∧ (h.now = to → backL n h to = h) ∧ (h.now ≠ to → ((nowC (backL n h to)).stack.length : Int) < 6)
  | 0, l, h, hw, H, hr, ht, hl => by
    cases l with
    | nil => simp at ht
    | cons x l =>
      have hl : l = [] := List.length_eq_zero_iff.mp (by simpa using hl)
      subst hl
      have hx : to = x := by simpa using ht
      subst hx
      obtain ⟨hx, _⟩ := hw
      exact ⟨H, hx, rfl, hr, fun _ => rfl, fun hne => absurd hx hne⟩
  | n + 1, l, h, hw, H, hr, ht, hl => by
    unfold backL
    by_cases he : h.now = to
    · rw [if_pos he]
      exact ⟨H, he, rfl, hr, fun _ => rfl, fun hne => absurd he hne⟩
    · rw [if_neg he]
      have h0 := H.now0 hr
      have hw' := leave_way hw h0
      have ht' : to ∈ l.tail := by
        cases l with
        | nil => simp at ht
        | cons x l =>
          obtain ⟨hx, _⟩ := hw
          rcases List.mem_cons.mp ht with e | e
          · exact absurd (hx.trans e.symm) he
          · exact e
      have hs : 0 ≤ (nowC h).sender := by
        rcases Int.lt_or_le (nowC h).sender 0 with hneg | hpos
        · have e : l.tail = [] := hw'.det (m := []) hneg
          rw [e] at ht'; simp at ht'
        · exact hpos
      obtain ⟨H', hroom⟩ := H.leave hr hs
      obtain ⟨a1, a2, a3, a4, a5, a6⟩ := back_ok n l.tail (leaveH h) hw' H' hr ht' (by rw [List.length_tail]; omega)
      refine ⟨a1, a2, a3.trans leave_len, a4, fun e => absurd e he, fun _ => ?_⟩
      by_cases h1 : (leaveH h).now = to
      · rw [a5 h1]; exact hroom
      · exact a6 h1
structure DoPre (p : Pg) (h : Hp) (op : Int × Int) (args : List V) : Prop where
  ok : HOK p h
  run : h.code = 0
  isOp : opOk p (methAt p (nowC h).method) op = true
  len : (args.length : Int) = (takes p op).1
  vals : ∀ v ∈ args, valOk h.calls.length v = true
  room : ((nowC h).stack.length : Int) + (takes p op).2 ≤ 6
  kinds : kindsOk op args = true
theorem prog_meth (H : progOk p = true) {i : Int} (h0 : 0 ≤ i) (h1 : i < p.length) : methOk p (methAt p i) = true := by
  unfold progOk at H
  simp only [Bool.and_eq_true, List.all_eq_true] at H
  exact H.2.2 _ (methAt_mem h0 h1)
structure MethP (p : Pg) (m : Meth) : Prop where
  a0 : 0 ≤ m.args
  a1 : m.args ≤ 2
  t0 : m.args ≤ m.temps
  t1 : m.temps ≤ 4
  ops : m.ops.length ≤ 14
  all : ∀ op ∈ m.ops, opOk p m op = true
theorem methOk_iff {m : Meth} : methOk p m = true ↔ MethP p m := by
  unfold methOk
  simp only [Bool.and_eq_true, List.all_eq_true, inB_iff, decide_eq_true_eq]
  exact ⟨fun ⟨a, b, c, d⟩ => ⟨a.1, a.2, b.1, b.2, by omega, d⟩, fun h => ⟨⟨h.a0, h.a1⟩, ⟨h.t0, h.t1⟩, by have := h.ops; omega, h.all⟩⟩
theorem prog_len (H : progOk p = true) : 1 ≤ p.length ∧ p.length ≤ 4 := by
  unfold progOk at H
  simp only [Bool.and_eq_true, inB_iff] at H
  omega
theorem HOK.meth (H : HOK p h) {i : Int} (h0 : 0 ≤ i) (h1 : i < h.calls.length) : MethP p (methAt p (callAt h.calls i).method) := by
  have hf := H.at h0 h1
  exact methOk_iff.mp (prog_meth H.prog hf.m0 hf.m1)
theorem takes_range (H : progOk p = true) (op : Int × Int) : 0 ≤ (takes p op).1 ∧ (takes p op).1 ≤ 2 ∧ 0 ≤ (takes p op).2 ∧ (takes p op).2 ≤ 1 := by
  unfold takes
  repeat' split
  all_goals first | (refine ⟨?_, ?_, ?_, ?_⟩ <;> simp <;> done) | skip
  rename_i hin
  rw [inB_iff] at hin
  have := methOk_iff.mp (prog_meth H hin.1 (by omega))
  exact ⟨this.a0, this.a1, by show (0 : Int) ≤ 1; decide, by show (1 : Int) ≤ 1; decide⟩
theorem took_len : (tookH p h).calls.length = h.calls.length := putC_len ..
theorem step_pre (H : HOK p h) (hr : h.code = 0) (h1 : ¬ ((opsNow p h).length : Int) ≤ (nowC h).pc) (h2 : ¬ (leftNow p h < 0 ∨ 6 < leftNow p h + (takes p (opNow p h)).2)) (h3 : ¬ kindsOk (opNow p h) (argsNow p h) = false) :
    DoPre p (tookH p h) (opNow p h) (argsNow p h) := by
  have h0 := H.now0 hr
  have hf := H.at h0 H.now2
  have hm := H.meth h0 H.now2
  have ht := takes_range H.prog (opNow p h)
  have hle : leftNow p h = (nowC h).stack.length - (takes p (opNow p h)).1 := rfl
  have hnow : nowC (tookH p h) = { nowC h with stack := (nowC h).stack.take (leftNow p h).toNat, pc := (nowC h).pc + 1 } := by
    unfold nowC
    show callAt (putC h h.now _).calls h.now = _
    rw [callAt_put h0 H.now2 h0, if_pos rfl]; rfl
  have hpc0 := hf.pc0
  have hpc1 := hf.pc1
  refine ⟨H.put h0 H.now2 ⟨hf.m0, hf.m1, ?_, ?_, hf.temps, ?_, hf.s0, hf.s1, hf.tv, fun v hv => hf.sv v (List.mem_of_mem_take hv), fun hd => ?_⟩ rfl rfl (.inl rfl), hr, ?_, ?_, ?_, ?_, by simpa using h3⟩
  · show 0 ≤ (nowC h).pc + 1
    have : 0 ≤ (nowC h).pc := hpc0
    omega
  · show (nowC h).pc + 1 ≤ ((opsNow p h).length : Int)
    omega
  · show (((nowC h).stack.take (leftNow p h).toNat).length : Int) ≤ 6
    have := hf.stack
    have h9 := List.length_take_le (leftNow p h).toNat (nowC h).stack
    have : ((nowC h).stack.length : Int) ≤ 6 := this
    have := List.length_take_le' (leftNow p h).toNat (nowC h).stack
    omega
  · have := H.alive h0
    have hd : (nowC h).dead = true := hd
    rw [this] at hd; cases hd
  · rw [hnow]
    have hlt : (nowC h).pc < ((opsNow p h).length : Int) := by omega
    exact hm.all _ (pairAt_mem (l := opsNow p h) hpc0 hlt)
  · show (((nowC h).stack.drop (leftNow p h).toNat).length : Int) = _
    rw [List.length_drop]
    omega
  · intro v hv
    rw [took_len]
    exact hf.sv v (List.mem_of_mem_drop hv)
  · rw [hnow]
    show ((((nowC h).stack.take (leftNow p h).toNat).length : Nat) : Int) + _ ≤ 6
    rw [List.length_take]
    omega
theorem args_at {l : List V} {P : V → Prop} (h : ∀ v ∈ l, P v) {i : Int} (h0 : 0 ≤ i) (h1 : i < l.length) : P (pairAt l i) := h _ (pairAt_mem h0 h1)
theorem set_form {n : Int} {c : Cl} (hf : FormP p n c) {v : V} (hv : valOk n v = true) (a : Nat) : FormP p n { c with temps := c.temps.set a v } :=
  ⟨hf.m0, hf.m1, hf.pc0, hf.pc1, by show ((c.temps.set a v).length : Int) = _; rw [List.length_set]; exact hf.temps, hf.stack, hf.s0, hf.s1, fun u hu => by
    rcases List.mem_or_eq_of_mem_set hu with hu | rfl
    · exact hf.tv u hu
    · exact hv, hf.sv, hf.dead⟩
theorem HOK.call (H : HOK p h) (hr : h.code = 0) {k : Int} {args : List V} (k0 : 0 ≤ k) (k1 : k < p.length) (hl : (args.length : Int) = (methAt p k).args) (hv : ∀ v ∈ args, valOk h.calls.length v = true) (hroom : ((nowC h).stack.length : Int) < 6) :
    HOK p (callH p h k args) := by
  unfold callH
  split
  · exact H.code (by omega) (by decide) (by decide) (by decide)
  · have h0 := H.now0 hr
    have h1 := H.now2
    have hm := methOk_iff.mp (prog_meth H.prog k0 k1)
    have hb := H.size
    have hsz : (h.calls ++ [newC p k args h.now]).length = h.calls.length + 1 := by simp
    have hat := hm.t0
    obtain ⟨l, hw, hcov, hrm⟩ := H.way
    have hnew : FormP p (h.calls.length + 1) (newC p k args h.now) := by
      refine ⟨k0, k1, Int.le_refl _, by show (0 : Int) ≤ _; omega, ?_, by show ((0 : Nat) : Int) ≤ 6; decide, by show -1 ≤ h.now; omega, by show h.now < _; omega, fun v hv' => ?_, fun v hv' => ?_, fun e => by cases e⟩
      · show (((args ++ List.replicate ((methAt p k).temps - args.length).toNat (0, 0)).length : Nat) : Int) = (methAt p k).temps
        rw [List.length_append, List.length_replicate]
        omega
      · have hv' : v ∈ args ++ List.replicate ((methAt p k).temps - args.length).toNat (0, 0) := hv'
        rcases List.mem_append.mp hv' with h9 | h9
        · exact valOk_up (hv v h9) (by omega)
        · rw [(List.mem_replicate.mp h9).2]; exact ok_none
      · have : v ∈ ([] : List V) := hv'
        simp at this
    refine ⟨H.prog, by show -1 ≤ (h.calls.length : Int); omega, by show (h.calls.length : Int) < _; rw [hsz]; omega, by show 1 ≤ h.born + 1; have := H.born1; omega, by show h.born + 1 ≤ 30; have := H.born2; omega, by show (_ : Int) ≤ h.born + 1; rw [hsz]; omega, H.code1, H.code2, H.said,
      ⟨fun e => by have : h.code = 1 := e; omega, fun e => by have : (h.calls.length : Int) < 0 := e; omega⟩, ?_, (h.calls.length : Int) :: l, ⟨rfl, by omega, by rw [hsz]; omega, ?_, ?_⟩, ?_, ?_⟩
    · intro c hc
      rw [hsz]
      rcases List.mem_append.mp hc with h9 | h9
      · exact form_iff.mpr ((form_iff.mp (H.forms c h9)).up (by omega))
      · rw [List.mem_singleton.mp h9]; exact form_iff.mpr (by simpa using hnew)
    · rw [callAt_app (by omega), if_neg (by omega), if_pos rfl]; rfl
    · rw [callAt_app (by omega), if_neg (by omega), if_pos rfl]
      refine Way.congr (cs := h.calls) hw (fun x hx hlx => ?_)
      have hrx := hw.range x hx
      rw [callAt_app hrx.1, if_pos hlx]
      exact ⟨by rw [hsz]; omega, rfl, rfl⟩
    · intro x x0 x1 x2
      rw [hsz] at x1
      by_cases hx : x < h.calls.length
      · rw [callAt_app x0, if_pos hx] at x2
        exact List.mem_cons_of_mem _ (hcov x x0 hx x2)
      · have : x = h.calls.length := by omega
        rw [this]; simp
    · intro x hx
      have hx : x ∈ l := hx
      have hrx := hw.range x hx
      rw [callAt_app hrx.1, if_pos hrx.2.1]
      cases l with
      | nil => simp at hx
      | cons y l =>
        obtain ⟨rfl, _⟩ := hw
        rcases List.mem_cons.mp hx with rfl | h9
        · exact hroom
        · exact hrm x h9
theorem look_ok (H : HOK p h) {op : Int × Int} {i : Int} (ho : 0 ≤ op.2) (i0 : 0 ≤ i) (i1 : i < h.calls.length) : valOk h.calls.length (lookV h op i) = true := by
  have hf := H.at i0 i1
  have hm := H.meth i0 i1
  unfold lookV
  split
  · split
    · exact ok_call (by omega) hf.s1
    · exact ok_none
  · split
    · split
      · exact hf.tv _ (pairAt_mem ho (by assumption))
      · exact ok_none
    · split
      · exact ok_bit
      · split
        · exact ok_num hf.pc0 (by have := hf.pc1; have := hm.ops; omega)
        · exact ok_none
theorem made_ok {op : Int × Int} {args : List V} {v : V} {n : Int} {m : Meth} (hop : opOk p m op = true) (hl : (args.length : Int) = (takes p op).1) (hv : ∀ v ∈ args, valOk n v = true) (hk : kindsOk op args = true) (h : madeV op args = some v) : valOk n v = true ∧ (takes p op).2 = 1 := by
  unfold madeV at h
  split at h
  · rename_i h1
    injection h with h; subst h
    unfold opOk at hop
    rw [if_pos h1, inB_iff] at hop
    exact ⟨ok_num hop.1 (by omega), by unfold takes; rw [if_pos (.inl h1)]⟩
  · split at h
    · rename_i h1 h5
      injection h with h; subst h
      have ht : takes p op = (2, 1) := by unfold takes; simp [h5]
      rw [ht] at hl
      unfold kindsOk at hk
      rw [if_pos h5, Bool.and_eq_true, decide_eq_true_eq, decide_eq_true_eq] at hk
      have a := valOk_num (args_at hv (i := 0) (by omega) (by omega)) hk.1
      have b := valOk_num (args_at hv (i := 1) (by omega) (by omega)) hk.2
      refine ⟨?_, by rw [ht]⟩
      rw [Int.tmod_eq_emod_of_nonneg (by omega)]
      exact ok_num (by omega) (by omega)
    · split at h
      · rename_i h1 h5 h6
        injection h with h; subst h
        exact ⟨ok_bit, by unfold takes; simp [h6]⟩
      · cases h
theorem do_ok {op : Int × Int} {args : List V} (D : DoPre p h op args) : HOK p (doH p h op args) := by
  have H := D.ok
  have hr := D.run
  have h0 := H.now0 hr
  have h1 := H.now2
  have hf := H.at h0 h1
  have hm := H.meth h0 h1
  have hop := D.isOp
  have hl := D.len
  have hv := D.vals
  have hroom := D.room
  have hk := D.kinds
  have hnow : callAt h.calls h.now = nowC h := rfl
  unfold doH
  cases hmv : madeV op args with
  | some v =>
    obtain ⟨a, b⟩ := made_ok hop hl hv hk hmv
    exact H.push h0 a (by omega)
  | none =>
    simp only
    have arg : ∀ {i : Int}, 0 ≤ i → i < (takes p op).1 → valOk h.calls.length (pairAt args i) = true := fun {i} a b => args_at hv a (by omega)
    have hkk : op.1 = 12 ∨ op.1 = 13 ∨ op.1 = 17 ∨ op.1 = 18 ∨ op.1 = 14 ∨ op.1 = 15 → (pairAt args 0).1 = 2 := fun hc => by
      unfold kindsOk at hk
      rw [if_neg (by omega), if_pos hc] at hk
      simpa using hk
    by_cases h2 : op.1 = 2
    · rw [if_pos h2]
      have ht : takes p op = (0, 1) := by unfold takes; simp [h2]
      rw [ht] at hroom
      unfold opOk at hop
      rw [if_neg (by omega), if_pos (.inl h2), inB_iff] at hop
      have htl : ((nowC h).temps.length : Int) = _ := hf.temps
      exact H.push h0 (hf.tv _ (pairAt_mem hop.1 (by rw [hnow, htl]; show op.2 < (methAt p (nowC h).method).temps; omega))) (by have hroom : ((nowC h).stack.length : Int) + 1 ≤ 6 := hroom; omega)
    rw [if_neg h2]
    by_cases h3 : op.1 = 3
    · rw [if_pos h3]
      have ht : takes p op = (1, 0) := by unfold takes; simp [h3]
      rw [ht] at arg
      exact H.put h0 h1 (set_form hf (arg (by decide) (by decide)) _) rfl rfl (.inl rfl)
    rw [if_neg h3]
    by_cases h7 : op.1 = 7
    · rw [if_pos h7]
      unfold opOk at hop
      rw [if_neg (by omega), if_neg (by omega), if_pos (.inl h7), inB_iff] at hop
      exact H.put h0 h1 ⟨hf.m0, hf.m1, hop.1, by have := hop.2; show op.2 ≤ ((methAt p (nowC h).method).ops.length : Int); omega, hf.temps, hf.stack, hf.s0, hf.s1, hf.tv, hf.sv, hf.dead⟩ rfl rfl (.inl rfl)
    rw [if_neg h7]
    by_cases h8 : op.1 = 8
    · rw [if_pos h8]
      split
      · unfold opOk at hop
        rw [if_neg (by omega), if_neg (by omega), if_pos (.inr h8), inB_iff] at hop
        exact H.put h0 h1 ⟨hf.m0, hf.m1, hop.1, by have := hop.2; show op.2 ≤ ((methAt p (nowC h).method).ops.length : Int); omega, hf.temps, hf.stack, hf.s0, hf.s1, hf.tv, hf.sv, hf.dead⟩ rfl rfl (.inl rfl)
      · exact H
    rw [if_neg h8]
    by_cases h9 : op.1 = 9
    · rw [if_pos h9]
      unfold opOk at hop
      rw [if_neg (by omega), if_neg (by omega), if_neg (by omega), if_pos h9] at hop
      have ht : takes p op = ((methAt p op.2).args, 1) := by unfold takes; simp [h9, hop]
      rw [ht] at hl hroom
      rw [inB_iff] at hop
      exact H.call hr hop.1 (by omega) hl hv (by have hroom : ((nowC h).stack.length : Int) + 1 ≤ 6 := hroom; omega)
    rw [if_neg h9]
    by_cases h10 : op.1 = 10
    · rw [if_pos h10]
      have ht : takes p op = (1, 0) := by unfold takes; simp [h10]
      rw [ht] at arg
      have ha := arg (i := 0) (by decide) (by decide)
      unfold retH
      split
      · rename_i hs
        refine H.finish hr hs (v := saidV (leaveH h) (pairAt args 0)) ?_
        have hx := saidV_ok H ha
        unfold saidV at hx ⊢
        split
        · rename_i h2
          rw [if_pos h2] at hx
          obtain ⟨a, b⟩ := valOk_call ha h2
          rw [leave_calls, callAt_put h0 h1 a]
          split
          · rename_i e
            rw [e] at hx
            exact hx
          · exact hx
        · rename_i h2
          rw [if_neg h2] at hx
          exact hx
      · rename_i hs
        obtain ⟨H', hrm⟩ := H.leave hr (by omega)
        exact H'.push (H'.now0 hr) (by rw [leave_len]; exact ha) hrm
    rw [if_neg h10]
    by_cases h11 : op.1 = 11
    · rw [if_pos h11]
      have ht : takes p op = (0, 1) := by unfold takes; simp [h11]
      rw [ht] at hroom
      exact H.push h0 (ok_call h0 h1) (by have hroom : ((nowC h).stack.length : Int) + 1 ≤ 6 := hroom; omega)
    rw [if_neg h11]
    by_cases h12 : op.1 = 12 ∨ op.1 = 13 ∨ op.1 = 17 ∨ op.1 = 18
    · rw [if_pos h12]
      have ht : takes p op = (1, 1) := by unfold takes; rcases h12 with h | h | h | h <;> simp [h]
      rw [ht] at arg hroom
      have ha := arg (i := 0) (by decide) (by decide)
      obtain ⟨a, b⟩ := valOk_call ha (hkk (by omega))
      refine H.push h0 (look_ok H ?_ a b) (by have hroom : ((nowC h).stack.length : Int) + 1 ≤ 6 := hroom; omega)
      unfold opOk at hop
      by_cases h13 : op.1 = 13
      · rw [if_neg (by omega), if_neg (by omega), if_neg (by omega), if_neg (by omega), if_pos (.inl h13), inB_iff] at hop
        exact hop.1
      · rw [if_neg (by omega), if_neg (by omega), if_neg (by omega), if_neg (by omega), if_neg (by omega), Bool.and_eq_true, decide_eq_true_eq] at hop
        omega
    rw [if_neg h12]
    by_cases h14 : op.1 = 14
    · rw [if_pos h14]
      have ht : takes p op = (2, 0) := by unfold takes; simp [h14]
      rw [ht] at arg
      have ha := arg (i := 0) (by decide) (by decide)
      have hb := arg (i := 1) (by decide) (by decide)
      obtain ⟨a, b⟩ := valOk_call ha (hkk (by omega))
      unfold pokeH
      split
      · exact H.put a b (set_form (H.at a b) hb _) rfl rfl (.inr (Nat.le_refl _))
      · exact H
    rw [if_neg h14]
    by_cases h15 : op.1 = 15
    · rw [if_pos h15]
      have ht : takes p op = (2, 1) := by unfold takes; simp [h15]
      rw [ht] at arg hroom
      have ha := arg (i := 0) (by decide) (by decide)
      have hb := arg (i := 1) (by decide) (by decide)
      obtain ⟨a, b⟩ := valOk_call ha (hkk (by omega))
      unfold backH
      split
      · exact H.code (by omega) (by decide) (by decide) (by decide)
      · rename_i hd
        obtain ⟨l, hw, hcov, hrm⟩ := H.way
        have hin := hcov _ a b (by simpa using hd)
        obtain ⟨a1, a2, a3, a4, a5, a6⟩ := back_ok h.calls.length l h hw H hr hin (by have := hw.len; omega)
        refine a1.push (by rw [a2]; exact a) (by rw [a3]; exact hb) ?_
        by_cases he : h.now = (pairAt args 0).2
        · rw [a5 he]; have hroom : ((nowC h).stack.length : Int) + 1 ≤ 6 := hroom; omega
        · exact a6 he
    rw [if_neg h15]
    by_cases h16 : op.1 = 16
    · rw [if_pos h16]
      have ht : takes p op = (1, 0) := by unfold takes; simp [h16]
      rw [ht] at arg
      have ha := arg (i := 0) (by decide) (by decide)
      exact H.say (saidV_ok H ha)
    rw [if_neg h16]
    exact H
theorem step_ok (H : HOK p h) (hr : h.code = 0) : HOK p (stepH p h) := by
  unfold stepH
  split
  · exact H.code (by omega) (by decide) (by decide) (by decide)
  split
  · exact H.code (by omega) (by decide) (by decide) (by decide)
  split
  · exact H.code (by omega) (by decide) (by decide) (by decide)
  · exact do_ok (step_pre H hr (by assumption) (by assumption) (by assumption))
theorem run_ok : ∀ (n : Nat) (h : Hp), HOK p h → HOK p (runH p n h)
  | 0, h, H => H
  | n + 1, h, H => by
    unfold runH
    split
    · exact run_ok n _ (step_ok H (by assumption))
    · exact H
end Go.PT
namespace Go.PT
structure Gr (ν : Type) where
  now : Option ν
  met : ν → Int
  pc : ν → Int
  temps : ν → List V
  stack : ν → List V
  sender : ν → Option ν
  dead : ν → Bool
  rf : Int → ν
variable {ν μ ξ : Type}
def RL {α β : Type} (R : α → β → Prop) : List α → List β → Prop
  | [], [] => True
  | a :: l, b :: m => R a b ∧ RL R l m
  | _, _ => False
def RO {α β : Type} (R : α → β → Prop) : Option α → Option β → Prop
  | none, none => True
  | some a, some b => R a b
  | _, _ => False
theorem RL.len {α β : Type} {R : α → β → Prop} : ∀ {l : List α} {m : List β}, RL R l m → l.length = m.length
  | [], [], _ => rfl
  | a :: l, b :: m, h => by simp [RL.len h.2]
theorem RL.get {α β : Type} {R : α → β → Prop} : ∀ {l : List α} {m : List β}, RL R l m → ∀ {i : Nat} {a : α} {b : β}, l[i]? = some a → m[i]? = some b → R a b
  | a :: l, b :: m, h, 0, x, y, h1, h2 => by
    obtain rfl : a = x := by simpa using h1
    obtain rfl : b = y := by simpa using h2
    exact h.1
  | a :: l, b :: m, h, i + 1, x, y, h1, h2 => RL.get h.2 (i := i) (by simpa using h1) (by simpa using h2)
theorem RL.of {α β : Type} {R : α → β → Prop} : ∀ {l : List α} {m : List β}, l.length = m.length → (∀ (i : Nat) a b, l[i]? = some a → m[i]? = some b → R a b) → RL R l m
  | [], [], _, _ => trivial
  | a :: l, b :: m, hl, h => ⟨h 0 a b rfl rfl, RL.of (by simpa using hl) (fun i x y h1 h2 => h (i + 1) x y (by simpa using h1) (by simpa using h2))⟩
theorem RL.app {α β : Type} {R : α → β → Prop} : ∀ {l l' : List α} {m m' : List β}, RL R l m → RL R l' m' → RL R (l ++ l') (m ++ m')
  | [], l', [], m', _, h => h
  | a :: l, l', b :: m, m', h, h' => ⟨h.1, RL.app h.2 h'⟩
theorem RL.mono {α β : Type} {R S : α → β → Prop} : ∀ {l : List α} {m : List β}, RL R l m → (∀ a b, a ∈ l → b ∈ m → R a b → S a b) → RL S l m
  | [], [], _, _ => trivial
  | a :: l, b :: m, h, hs => ⟨hs _ _ (by simp) (by simp) h.1, RL.mono h.2 (fun x y hx hy => hs x y (by simp [hx]) (by simp [hy]))⟩
theorem RL.map {α β α' β' : Type} {R : α → β → Prop} {S : α' → β' → Prop} {f : α → α'} {f' : β → β'} : ∀ {l : List α} {m : List β}, RL R l m → (∀ a b, R a b → S (f a) (f' b)) → RL S (l.map f) (m.map f')
  | [], [], _, _ => trivial
  | a :: l, b :: m, h, hs => ⟨hs _ _ h.1, RL.map h.2 hs⟩
theorem RL.eq {α : Type} : ∀ {l m : List α}, RL (fun a b => a = b) l m → l = m
  | [], [], _ => rfl
  | a :: l, b :: m, h => by rw [h.1, RL.eq h.2]
theorem RL.self {α : Type} {R : α → α → Prop} : ∀ {l : List α}, (∀ a ∈ l, R a a) → RL R l l
  | [], _ => trivial
  | a :: l, h => ⟨h a (by simp), RL.self (fun b hb => h b (by simp [hb]))⟩
theorem RL.mem {α β : Type} {R : α → β → Prop} : ∀ {l : List α} {m : List β}, RL R l m → ∀ {a : α}, a ∈ l → ∃ b ∈ m, R a b
  | x :: l, y :: m, h, a, ha => by
    rcases List.mem_cons.mp ha with rfl | ha
    · exact ⟨y, by simp, h.1⟩
    · obtain ⟨b, hb, hr⟩ := RL.mem h.2 ha
      exact ⟨b, by simp [hb], hr⟩
def RV (R : ν → μ → Prop) (f : Int → ν) (f' : Int → μ) (v v' : V) : Prop := v.1 = v'.1 ∧ (v.1 = 2 → R (f v.2) (f' v'.2)) ∧ (v.1 ≠ 2 → v.2 = v'.2)
structure Iso (g : Gr ν) (g' : Gr μ) (R : ν → μ → Prop) : Prop where
  one : ∀ {a b c}, R a b → R a c → b = c
  two : ∀ {a b c}, R a c → R b c → a = b
  met : ∀ {a b}, R a b → g.met a = g'.met b
  pc : ∀ {a b}, R a b → g.pc a = g'.pc b
  dead : ∀ {a b}, R a b → g.dead a = g'.dead b
  temps : ∀ {a b}, R a b → RL (RV R g.rf g'.rf) (g.temps a) (g'.temps b)
  stack : ∀ {a b}, R a b → RL (RV R g.rf g'.rf) (g.stack a) (g'.stack b)
  sender : ∀ {a b}, R a b → RO R (g.sender a) (g'.sender b)
  now : RO R g.now g'.now
theorem RO.flip {α β : Type} {R : α → β → Prop} : ∀ {a : Option α} {b : Option β}, RO R a b → RO (fun y x => R x y) b a
  | none, none, _ => trivial
  | some _, some _, h => h
theorem RL.flip {α β : Type} {R : α → β → Prop} : ∀ {l : List α} {m : List β}, RL R l m → RL (fun y x => R x y) m l
  | [], [], _ => trivial
  | _ :: _, _ :: _, h => ⟨h.1, RL.flip h.2⟩
theorem RV.flip {R : ν → μ → Prop} {f : Int → ν} {f' : Int → μ} {v v' : V} (h : RV R f f' v v') : RV (fun y x => R x y) f' f v' v :=
  ⟨h.1.symm, fun e => h.2.1 (h.1.trans e), fun e => (h.2.2 (fun e' => e (h.1.symm.trans e'))).symm⟩
theorem Iso.flip {g : Gr ν} {g' : Gr μ} {R : ν → μ → Prop} (I : Iso g g' R) : Iso g' g (fun y x => R x y) :=
  ⟨fun h h' => I.two h h', fun h h' => I.one h h', fun h => (I.met h).symm, fun h => (I.pc h).symm, fun h => (I.dead h).symm, fun h => (I.temps h).flip.mono (fun _ _ _ _ h => h.flip), fun h => (I.stack h).flip.mono (fun _ _ _ _ h => h.flip), fun h => (I.sender h).flip, I.now.flip⟩
variable [DecidableEq ν] [DecidableEq μ]
def refV (g : Gr ν) (v : V) : Option ν := if v.1 = 2 then some (g.rf v.2) else none
def refs (g : Gr ν) (a : ν) : List ν := (g.sender a).toList ++ ((g.temps a).filterMap (refV g) ++ (g.stack a).filterMap (refV g))
def add1 (out : List ν) (a : ν) : List ν := if a ∈ out then out else out ++ [a]
def addAll (out : List ν) (l : List ν) : List ν := l.foldl add1 out
def bfs (g : Gr ν) : Nat → Nat → List ν → List ν
  | 0, _, out => out
  | n + 1, i, out => match out[i]? with | some a => bfs g n (i + 1) (addAll out (refs g a)) | none => out
def found (g : Gr ν) (n : Nat) : List ν := match g.now with | some a => bfs g n 0 [a] | none => []
def nameV (g : Gr ν) (out : List ν) (v : V) : V := if v.1 = 2 then (v.1, (out.idxOf (g.rf v.2) : Int)) else v
def seen (g : Gr ν) (out : List ν) (a : ν) : Cl := ⟨g.met a, g.pc a, (g.temps a).map (nameV g out), (g.stack a).map (nameV g out), match g.sender a with | some b => (out.idxOf b : Int) | none => -1, g.dead a⟩
def view (g : Gr ν) (n : Nat) : List Cl := (found g n).map (seen g (found g n))
def Inj (R : ν → μ → Prop) : Prop := (∀ {a b c}, R a b → R a c → b = c) ∧ (∀ {a b c}, R a c → R b c → a = b)
theorem Iso.inj {g : Gr ν} {g' : Gr μ} {R : ν → μ → Prop} (I : Iso g g' R) : Inj R := ⟨I.one, I.two⟩
theorem mem_rel {R : ν → μ → Prop} (hR : Inj R) : ∀ {l : List ν} {m : List μ}, RL R l m → ∀ {a : ν} {b : μ}, R a b → (a ∈ l ↔ b ∈ m)
  | [], [], _, a, b, _ => by simp
  | x :: l, y :: m, h, a, b, r => by
    rw [List.mem_cons, List.mem_cons, mem_rel hR h.2 r]
    constructor
    · rintro (rfl | h1)
      · exact .inl (hR.1 r h.1)
      · exact .inr h1
    · rintro (rfl | h1)
      · exact .inl (hR.2 r h.1)
      · exact .inr h1
theorem add1_rel {R : ν → μ → Prop} (hR : Inj R) {l : List ν} {m : List μ} (h : RL R l m) {a : ν} {b : μ} (r : R a b) : RL R (add1 l a) (add1 m b) := by
  unfold add1
  have := mem_rel hR h r
  by_cases ha : a ∈ l
  · rw [if_pos ha, if_pos (this.mp ha)]; exact h
  · rw [if_neg ha, if_neg (fun hb => ha (this.mpr hb))]; exact h.app ⟨r, trivial⟩
theorem addAll_rel {R : ν → μ → Prop} (hR : Inj R) : ∀ {r : List ν} {s : List μ}, RL R r s → ∀ {l : List ν} {m : List μ}, RL R l m → RL R (addAll l r) (addAll m s)
  | [], [], _, l, m, h => h
  | a :: r, b :: s, h', l, m, h => addAll_rel hR h'.2 (add1_rel hR h h'.1)
theorem filterMap_rel {R : ν → μ → Prop} {g : Gr ν} {g' : Gr μ} : ∀ {l m : List V}, RL (RV R g.rf g'.rf) l m → RL R (l.filterMap (refV g)) (m.filterMap (refV g'))
  | [], [], _ => trivial
  | v :: l, v' :: m, h => by
    have ih := filterMap_rel h.2
    by_cases hv : v.1 = 2
    · have hv' : v'.1 = 2 := h.1.1 ▸ hv
      have e : refV g v = some (g.rf v.2) := by unfold refV; rw [if_pos hv]
      have e' : refV g' v' = some (g'.rf v'.2) := by unfold refV; rw [if_pos hv']
      rw [List.filterMap_cons_some e, List.filterMap_cons_some e']
      exact ⟨h.1.2.1 hv, ih⟩
    · have hv' : v'.1 ≠ 2 := h.1.1 ▸ hv
      have e : refV g v = none := by unfold refV; rw [if_neg hv]
      have e' : refV g' v' = none := by unfold refV; rw [if_neg hv']
      rw [List.filterMap_cons_none e, List.filterMap_cons_none e']
      exact ih
theorem toList_rel {R : ν → μ → Prop} : ∀ {a : Option ν} {b : Option μ}, RO R a b → RL R a.toList b.toList
  | none, none, _ => trivial
  | some _, some _, h => ⟨h, trivial⟩
theorem refs_rel {g : Gr ν} {g' : Gr μ} {R : ν → μ → Prop} (I : Iso g g' R) {a : ν} {b : μ} (r : R a b) : RL R (refs g a) (refs g' b) :=
  (toList_rel (I.sender r)).app ((filterMap_rel (I.temps r)).app (filterMap_rel (I.stack r)))
theorem bfs_rel {g : Gr ν} {g' : Gr μ} {R : ν → μ → Prop} (I : Iso g g' R) : ∀ (n i : Nat) {l : List ν} {m : List μ}, RL R l m → RL R (bfs g n i l) (bfs g' n i m)
  | 0, _, _, _, h => h
  | n + 1, i, l, m, h => by
    unfold bfs
    have hl := h.len
    rcases Nat.lt_or_ge i l.length with hi | hi
    · rw [List.getElem?_eq_getElem hi, List.getElem?_eq_getElem (hl ▸ hi)]
      exact bfs_rel I n (i + 1) (addAll_rel I.inj (refs_rel I (h.get (List.getElem?_eq_getElem hi) (List.getElem?_eq_getElem (hl ▸ hi)))) h)
    · rw [List.getElem?_eq_none hi, List.getElem?_eq_none (hl ▸ hi)]
      exact h
theorem found_rel {g : Gr ν} {g' : Gr μ} {R : ν → μ → Prop} (I : Iso g g' R) (n : Nat) : RL R (found g n) (found g' n) := by
  have := I.now
  unfold found
  cases h : g.now <;> cases h' : g'.now <;> rw [h, h'] at this
  · trivial
  · cases this
  · cases this
  · exact bfs_rel I n 0 ⟨this, trivial⟩
theorem idxOf_rel {R : ν → μ → Prop} (hR : Inj R) : ∀ {l : List ν} {m : List μ}, RL R l m → ∀ {a : ν} {b : μ}, R a b → l.idxOf a = m.idxOf b
  | [], [], _, a, b, _ => rfl
  | x :: l, y :: m, h, a, b, r => by
    rw [List.idxOf_cons, List.idxOf_cons, idxOf_rel hR h.2 r]
    have : (x == a) = (y == b) := by
      rw [Bool.eq_iff_iff, beq_iff_eq, beq_iff_eq]
      constructor
      · rintro rfl; exact hR.1 h.1 r
      · rintro rfl; exact hR.2 h.1 r
    rw [this]
theorem view_rel {g : Gr ν} {g' : Gr μ} {R : ν → μ → Prop} (I : Iso g g' R) (n : Nat) : view g n = view g' n := by
  unfold view
  have hf := found_rel I n
  refine RL.eq (RL.map hf (fun a b r => ?_))
  have hi : ∀ {x : ν} {y : μ}, R x y → (found g n).idxOf x = (found g' n).idxOf y := fun r => idxOf_rel I.inj hf r
  have hv : ∀ {l m : List V}, RL (RV R g.rf g'.rf) l m → l.map (nameV g (found g n)) = m.map (nameV g' (found g' n)) := fun h => RL.eq (h.map (fun v v' r => by
    unfold nameV
    by_cases e : v.1 = 2
    · rw [if_pos e, if_pos (r.1 ▸ e), hi (r.2.1 e), r.1]
    · rw [if_neg e, if_neg (r.1 ▸ e)]
      exact Prod.ext r.1 (r.2.2 e)))
  unfold seen
  rw [I.met r, I.pc r, hv (I.temps r), hv (I.stack r), I.dead r]
  have hs := I.sender r
  congr 1
  cases h : g.sender a <;> cases h' : g'.sender b <;> rw [h, h'] at hs
  · exact hs.elim
  · exact hs.elim
  · exact congrArg (fun n : Nat => (n : Int)) (hi hs)
theorem add1_sub {out : List ν} {a x : ν} : x ∈ add1 out a ↔ x ∈ out ∨ x = a := by
  unfold add1
  split
  · rename_i h
    constructor
    · exact .inl
    · rintro (h1 | rfl)
      · exact h1
      · exact h
  · simp
theorem addAll_sub : ∀ {l out : List ν} {x : ν}, x ∈ addAll out l ↔ x ∈ out ∨ x ∈ l
  | [], out, x => by simp [addAll]
  | a :: l, out, x => by
    have := addAll_sub (l := l) (out := add1 out a) (x := x)
    unfold addAll at this ⊢
    rw [List.foldl_cons, this, add1_sub, List.mem_cons]
    constructor
    · rintro ((h | h) | h)
      · exact .inl h
      · exact .inr (.inl h)
      · exact .inr (.inr h)
    · rintro (h | h | h)
      · exact .inl (.inl h)
      · exact .inl (.inr h)
      · exact .inr h
theorem add1_pre {out : List ν} {a : ν} : ∃ t, add1 out a = out ++ t := by
  unfold add1; split
  · exact ⟨[], by simp⟩
  · exact ⟨[a], rfl⟩
theorem addAll_pre : ∀ {l out : List ν}, ∃ t, addAll out l = out ++ t
  | [], out => ⟨[], by simp [addAll]⟩
  | a :: l, out => by
    obtain ⟨t, ht⟩ := add1_pre (out := out) (a := a)
    obtain ⟨t', ht'⟩ := addAll_pre (l := l) (out := add1 out a)
    exact ⟨t ++ t', by rw [← List.append_assoc, ← ht, ← ht']; rfl⟩
theorem add1_nodup {out : List ν} {a : ν} (h : out.Nodup) : (add1 out a).Nodup := by
  unfold add1; split
  · exact h
  · rename_i hn
    rw [List.nodup_append]
    exact ⟨h, by simp, fun x hx y hy e => hn (by rw [List.mem_singleton.mp hy] at e; exact e ▸ hx)⟩
theorem addAll_nodup : ∀ {l out : List ν}, out.Nodup → (addAll out l).Nodup
  | [], _, h => h
  | a :: l, out, h => addAll_nodup (l := l) (add1_nodup h)
theorem bfs_pre (g : Gr ν) : ∀ (n i : Nat) (out : List ν), ∃ t, bfs g n i out = out ++ t
  | 0, _, out => ⟨[], by simp [bfs]⟩
  | n + 1, i, out => by
    unfold bfs
    split
    · rename_i a ha
      obtain ⟨t, ht⟩ := addAll_pre (l := refs g a) (out := out)
      obtain ⟨t', ht'⟩ := bfs_pre g n (i + 1) (addAll out (refs g a))
      exact ⟨t ++ t', by rw [ht', ht, List.append_assoc]⟩
    · exact ⟨[], by simp⟩
theorem bfs_nodup (g : Gr ν) : ∀ (n i : Nat) (out : List ν), out.Nodup → (bfs g n i out).Nodup
  | 0, _, _, h => h
  | n + 1, i, out, h => by
    unfold bfs
    split
    · exact bfs_nodup g n (i + 1) _ (addAll_nodup h)
    · exact h
theorem bfs_in (g : Gr ν) {D : ν → Prop} (hD : ∀ a, D a → ∀ b ∈ refs g a, D b) : ∀ (n i : Nat) (out : List ν), (∀ a ∈ out, D a) → ∀ a ∈ bfs g n i out, D a
  | 0, _, _, h => h
  | n + 1, i, out, h => by
    unfold bfs
    split
    · rename_i a ha
      exact bfs_in g hD n (i + 1) _ (fun x hx => by
        rcases addAll_sub.mp hx with hx | hx
        · exact h x hx
        · exact hD a (h a (List.mem_of_getElem? ha)) x hx)
    · exact h
theorem bfs_more (g : Gr ν) : ∀ (n i : Nat) (out : List ν), (bfs g n i out).length ≤ n + i → ∀ k, bfs g (n + k) i out = bfs g n i out
  | 0, i, out, h, k => by
    have h : out.length ≤ 0 + i := h
    cases k with
    | zero => rfl
    | succ k =>
      show bfs g (0 + k + 1) i out = out
      unfold bfs
      rw [List.getElem?_eq_none (by omega)]
  | n + 1, i, out, h, k => by
    rw [show n + 1 + k = n + k + 1 by omega]
    unfold bfs at h ⊢
    split
    · rename_i a ha
      rw [ha] at h
      exact bfs_more g n (i + 1) _ (by simp only at h; omega) k
    · rfl
theorem bfs_closed (g : Gr ν) : ∀ (n i : Nat) (out : List ν), (bfs g n i out).length ≤ n + i → (∀ j a, j < i → out[j]? = some a → ∀ b ∈ refs g a, b ∈ out) → ∀ a ∈ bfs g n i out, ∀ b ∈ refs g a, b ∈ bfs g n i out
  | 0, i, out, h, hc => by
    have h : out.length ≤ 0 + i := h
    intro a ha b hb
    obtain ⟨j, hj, rfl⟩ := List.getElem_of_mem ha
    exact hc j _ (by have : j < out.length := hj; omega) (List.getElem?_eq_getElem hj) b hb
  | n + 1, i, out, h, hc => by
    unfold bfs at h ⊢
    split
    · rename_i a ha
      rw [ha] at h
      refine bfs_closed g n (i + 1) _ (by simp only at h; omega) (fun j x hj hx b hb => ?_)
      obtain ⟨t, ht⟩ := addAll_pre (l := refs g a) (out := out)
      have hi := (List.getElem?_eq_some_iff.mp ha).1
      rw [ht, List.getElem?_append_left (by omega)] at hx
      rcases Nat.lt_or_ge j i with hlt | hge
      · exact addAll_sub.mpr (.inl (hc j x hlt hx b hb))
      · have : j = i := by omega
        subst this
        rw [ha] at hx
        obtain rfl := Option.some.inj hx
        exact addAll_sub.mpr (.inr hb)
    · rename_i hn
      rcases Nat.lt_or_ge i out.length with hi | hi
      · rw [List.getElem?_eq_getElem hi] at hn; cases hn
      intro a ha b hb
      obtain ⟨j, hj, rfl⟩ := List.getElem_of_mem ha
      exact hc j _ (by omega) (List.getElem?_eq_getElem hj) b hb
structure Fin' (g : Gr ν) (D : List ν) : Prop where
  now : ∀ a, g.now = some a → a ∈ D
  refs : ∀ a ∈ D, ∀ b ∈ refs g a, b ∈ D
theorem found_len {g : Gr ν} {D : List ν} (F : Fin' g D) (n : Nat) : (found g n).Nodup ∧ (∀ a ∈ found g n, a ∈ D) ∧ (found g n).length ≤ D.length := by
  have key : (found g n).Nodup ∧ ∀ a ∈ found g n, a ∈ D := by
    unfold found
    cases h : g.now with
    | none => simp
    | some a => exact ⟨bfs_nodup g n 0 [a] (by simp), bfs_in g (D := (· ∈ D)) F.refs n 0 [a] (fun x hx => by rw [List.mem_singleton.mp hx]; exact F.now a h)⟩
  exact ⟨key.1, key.2, length_le_of_sub key.1 key.2⟩
theorem found_more {g : Gr ν} {n : Nat} (h : (found g n).length ≤ n) (k : Nat) (hk : n ≤ k) : found g k = found g n := by
  unfold found at h ⊢
  cases hn : g.now with
  | none => rfl
  | some a =>
    rw [hn] at h
    simp only at h ⊢
    rw [show k = n + (k - n) by omega]
    exact bfs_more g n 0 [a] (by omega) _
theorem found_closed {g : Gr ν} {n : Nat} (h : (found g n).length ≤ n) : ∀ a ∈ found g n, ∀ b ∈ refs g a, b ∈ found g n := by
  unfold found at h ⊢
  cases hn : g.now with
  | none => simp
  | some a =>
    rw [hn] at h
    exact bfs_closed g n 0 [a] (by simpa using h) (fun j x hj => by omega)
theorem found_head {g : Gr ν} {n : Nat} {a : ν} (h : g.now = some a) : (found g n)[0]? = some a := by
  unfold found
  rw [h]
  obtain ⟨t, ht⟩ := bfs_pre g n 0 [a]
  simp only [ht]
  rfl
end Go.PT
namespace Go.PT
variable {ν μ : Type} [DecidableEq ν] [DecidableEq μ]
structure NdR (R : ν → μ → Prop) (f : Int → ν) (f' : Int → μ) (c : Cl) (s : Option ν) (c' : Cl) (s' : Option μ) : Prop where
  met : c.method = c'.method
  pc : c.pc = c'.pc
  dead : c.dead = c'.dead
  temps : RL (RV R f f') c.temps c'.temps
  stack : RL (RV R f f') c.stack c'.stack
  sender : RO R s s'
def Gr.nd (g : Gr ν) (a : ν) : Cl := ⟨g.met a, g.pc a, g.temps a, g.stack a, 0, g.dead a⟩
theorem iso_of {g : Gr ν} {g' : Gr μ} {R : ν → μ → Prop} (hR : Inj R) (h : ∀ a b, R a b → NdR R g.rf g'.rf (g.nd a) (g.sender a) (g'.nd b) (g'.sender b)) (hn : RO R g.now g'.now) : Iso g g' R :=
  ⟨hR.1, hR.2, fun r => (h _ _ r).met, fun r => (h _ _ r).pc, fun r => (h _ _ r).dead, fun r => (h _ _ r).temps, fun r => (h _ _ r).stack, fun r => (h _ _ r).sender, hn⟩
def GH (h : Hp) : Gr Int where
  now := if h.now < 0 then none else some h.now
  met := fun i => (callAt h.calls i).method
  pc := fun i => (callAt h.calls i).pc
  temps := fun i => (callAt h.calls i).temps
  stack := fun i => (callAt h.calls i).stack
  sender := fun i => if (callAt h.calls i).sender < 0 then none else some (callAt h.calls i).sender
  dead := fun i => (callAt h.calls i).dead
  rf := fun n => n
def InH (h : Hp) (i : Int) : Prop := 0 ≤ i ∧ i < h.calls.length
def snd (c : Cl) : Option Int := if c.sender < 0 then none else some c.sender
variable {p : Pg} {h h' : Hp} {R : Int → Int → Prop}
end Go.PT
namespace Go.PT
variable {ν μ : Type} [DecidableEq ν] [DecidableEq μ]
def VOk (f : Int → ν) (D : ν → Prop) (v : V) : Prop := (v.1 = 0 ∧ v.2 = 0) ∨ (v.1 = 1 ∧ 0 ≤ v.2 ∧ v.2 ≤ 999) ∨ (v.1 = 2 ∧ D (f v.2))
def WayG (g : Gr ν) : Option ν → List ν → Prop
  | none, [] => True
  | some a, x :: l => a = x ∧ g.dead x = false ∧ WayG g (g.sender x) l
  | _, _ => False
structure GNd (p : Pg) (g : Gr ν) (D : ν → Prop) (a : ν) : Prop where
  m0 : 0 ≤ g.met a
  m1 : g.met a < p.length
  pc0 : 0 ≤ g.pc a
  pc1 : g.pc a ≤ (methAt p (g.met a)).ops.length
  temps : ((g.temps a).length : Int) = (methAt p (g.met a)).temps
  stack : ((g.stack a).length : Int) ≤ 6
  sender : ∀ b, g.sender a = some b → D b
  tv : ∀ v ∈ g.temps a, VOk g.rf D v
  sv : ∀ v ∈ g.stack a, VOk g.rf D v
  dead : g.dead a = true → g.sender a = none ∧ g.stack a = []
structure GOK (p : Pg) (g : Gr ν) (D : ν → Prop) : Prop where
  nd : ∀ a, D a → GNd p g D a
  now : ∀ a, g.now = some a → D a
  way : ∃ l, WayG g g.now l ∧ (∀ a, D a → g.dead a = false → a ∈ l) ∧ ∀ a ∈ l.tail, ((g.stack a).length : Int) < 6
theorem WayG.rel {g : Gr ν} {g' : Gr μ} {R : ν → μ → Prop} (I : Iso g g' R) : ∀ {l : List ν} {a : Option ν} {b : Option μ}, WayG g a l → RO R a b → ∃ l', WayG g' b l' ∧ RL R l l'
  | [], none, none, _, _ => ⟨[], trivial, trivial⟩
  | x :: l, some a, some b, ⟨h1, h2, h3⟩, r => by
    subst h1
    have r : R a b := r
    obtain ⟨l', k1, k2⟩ := WayG.rel I h3 (I.sender r)
    exact ⟨b :: l', ⟨rfl, by rw [← I.dead r]; exact h2, k1⟩, r, k2⟩
theorem VOk.rel {R : ν → μ → Prop} {f : Int → ν} {f' : Int → μ} {D : ν → Prop} {D' : μ → Prop} (hD : ∀ a b, R a b → D a → D' b) {v : V} {v' : V} (h : RV R f f' v v') (hv : VOk f D v) : VOk f' D' v' := by
  rcases hv with ⟨h1, h2⟩ | ⟨h1, h2⟩ | ⟨h1, h2⟩
  · exact .inl ⟨h.1 ▸ h1, (h.2.2 (by rw [h1]; decide)) ▸ h2⟩
  · exact .inr (.inl ⟨h.1 ▸ h1, (h.2.2 (by rw [h1]; decide)) ▸ h2⟩)
  · exact .inr (.inr ⟨h.1 ▸ h1, hD _ _ (h.2.1 h1) h2⟩)
theorem GOK.iso {p : Pg} {g : Gr ν} {g' : Gr μ} {R : ν → μ → Prop} {D : ν → Prop} {D' : μ → Prop} (G : GOK p g D) (I : Iso g g' R) (h1 : ∀ b, D' b → ∃ a, R a b ∧ D a) (h2 : ∀ a b, R a b → D a → D' b) : GOK p g' D' := by
  refine ⟨fun b hb => ?_, fun b hb => ?_, ?_⟩
  · obtain ⟨a, r, ha⟩ := h1 b hb
    have n := G.nd a ha
    have em := I.met r
    refine ⟨em ▸ n.m0, em ▸ n.m1, I.pc r ▸ n.pc0, ?_, ?_, ?_, fun c hc => ?_, fun v hv => ?_, fun v hv => ?_, fun hd => ?_⟩
    · rw [← em, ← I.pc r]; exact n.pc1
    · rw [← em, ← (I.temps r).len]; exact n.temps
    · rw [← (I.stack r).len]; exact n.stack
    · have hs := I.sender r
      rw [hc] at hs
      cases h : g.sender a with
      | none => rw [h] at hs; cases hs
      | some x => rw [h] at hs; exact h2 _ _ hs (n.sender x h)
    · obtain ⟨u, hu, hr⟩ := (I.temps r).flip.mem hv
      exact VOk.rel h2 hr (n.tv u hu)
    · obtain ⟨u, hu, hr⟩ := (I.stack r).flip.mem hv
      exact VOk.rel h2 hr (n.sv u hu)
    · obtain ⟨k1, k2⟩ := n.dead ((I.dead r).trans hd)
      have hs := I.sender r
      have hl := (I.stack r).len
      rw [k1] at hs
      rw [k2] at hl
      refine ⟨?_, List.length_eq_zero_iff.mp hl.symm⟩
      cases h : g'.sender b with
      | none => rfl
      | some x => rw [h] at hs; cases hs
  · have hn := I.now
    rw [hb] at hn
    cases h : g.now with
    | none => rw [h] at hn; cases hn
    | some x => rw [h] at hn; exact h2 _ _ hn (G.now x h)
  · obtain ⟨l, k1, k2, k3⟩ := G.way
    obtain ⟨l', q1, q2⟩ := k1.rel I I.now
    refine ⟨l', q1, fun b hb hd => ?_, fun b hb => ?_⟩
    · obtain ⟨a, r, ha⟩ := h1 b hb
      have := k2 a ha ((I.dead r).trans hd)
      obtain ⟨b', hb', r'⟩ := q2.mem this
      exact I.one r r' ▸ hb'
    · have q3 : RL R l.tail l'.tail := by
        cases l <;> cases l'
        · trivial
        · cases q2
        · cases q2
        · exact q2.2
      obtain ⟨a, ha, r⟩ := q3.flip.mem hb
      rw [← (I.stack r).len]; exact k3 a ha
theorem vok_heap {h : Hp} {v : V} : VOk (GH h).rf (InH h) v ↔ valOk h.calls.length v = true := by
  constructor
  · rintro (⟨h1, h2⟩ | ⟨h1, h2, h3⟩ | ⟨h1, h2⟩)
    · unfold valOk; simp [h1, h2]
    · unfold valOk; simp [h1, inB_iff]; omega
    · have h2 : 0 ≤ v.2 ∧ v.2 < h.calls.length := h2
      unfold valOk; simp [h1, inB_iff]; omega
  · intro hv
    rcases valOk_kind hv with h1 | h1 | h1
    · exact .inl ⟨h1, valOk_none hv h1⟩
    · exact .inr (.inl ⟨h1, valOk_num hv h1⟩)
    · exact .inr (.inr ⟨h1, valOk_call hv h1⟩)
theorem way_heap {h : Hp} : ∀ {l : List Int} {a : Int}, a < h.calls.length → (∀ x, InH h x → (callAt h.calls x).sender < h.calls.length) → (Way h.calls a l ↔ WayG (GH h) (if a < 0 then none else some a) l)
  | [], a, _, _ => by
    by_cases ha : a < 0
    · rw [if_pos ha]; exact ⟨fun _ => trivial, fun _ => ha⟩
    · rw [if_neg ha]; exact ⟨fun h => absurd h ha, fun h => by cases h⟩
  | x :: l, a, hl, hs => by
    by_cases ha : a < 0
    · rw [if_pos ha]; exact ⟨fun ⟨h1, h2, _⟩ => by omega, fun h => by cases h⟩
    · rw [if_neg ha]
      constructor
      · rintro ⟨h1, h2, h3, h4, h5⟩
        exact ⟨h1, h4, (way_heap (hs x ⟨h2, h3⟩) hs).mp h5⟩
      · rintro ⟨h1, h4, h5⟩
        subst h1
        exact ⟨rfl, by omega, hl, h4, (way_heap (hs a ⟨by omega, hl⟩) hs).mpr h5⟩
structure HSc (p : Pg) (h : Hp) : Prop where
  prog : progOk p = true
  now1 : -1 ≤ h.now
  now2 : h.now < h.calls.length
  born1 : 1 ≤ h.born
  born2 : h.born ≤ 30
  size : (h.calls.length : Int) ≤ h.born
  code1 : 0 ≤ h.code
  code2 : h.code ≤ 3
  said : saidOk p h.said = true
  ended : h.code = 1 ↔ h.now < 0
  snd : ∀ c ∈ h.calls, -1 ≤ c.sender
theorem gok_of_hok {p : Pg} {h : Hp} (H : HOK p h) : GOK p (GH h) (InH h) := by
  refine ⟨fun i hi => ?_, fun a ha => ?_, ?_⟩
  · have f := H.at hi.1 hi.2
    refine ⟨f.m0, f.m1, f.pc0, f.pc1, f.temps, f.stack, fun b hb => ?_, fun v hv => vok_heap.mpr (f.tv v hv), fun v hv => vok_heap.mpr (f.sv v hv), fun hd => ?_⟩
    · have hb : (if (callAt h.calls i).sender < 0 then none else some (callAt h.calls i).sender) = some b := hb
      split at hb
      · cases hb
      · obtain rfl := Option.some.inj hb
        exact ⟨by omega, f.s1⟩
    · obtain ⟨h1, h2⟩ := f.dead hd
      refine ⟨?_, h2⟩
      show (if (callAt h.calls i).sender < 0 then none else some (callAt h.calls i).sender) = none
      rw [if_pos (by omega)]
  · have ha : (if h.now < 0 then none else some h.now) = some a := ha
    split at ha
    · cases ha
    · obtain rfl := Option.some.inj ha
      exact ⟨by omega, H.now2⟩
  · obtain ⟨l, hw, hcov, hroom⟩ := H.way
    exact ⟨l, (way_heap H.now2 (fun x hx => (H.at hx.1 hx.2).s1)).mp hw, fun a ha hd => hcov a ha.1 ha.2 hd, hroom⟩
theorem hok_of_gok {p : Pg} {h : Hp} (S : HSc p h) (G : GOK p (GH h) (InH h)) : HOK p h := by
  have hs1 : ∀ x, InH h x → (callAt h.calls x).sender < h.calls.length := fun x hx => by
    have := (G.nd x hx).sender (callAt h.calls x).sender
    by_cases hn : (callAt h.calls x).sender < 0
    · have := hx.1; have := hx.2; omega
    · exact (this (by show (if (callAt h.calls x).sender < 0 then none else some (callAt h.calls x).sender) = _; rw [if_neg hn])).2
  refine ⟨S.prog, S.now1, S.now2, S.born1, S.born2, S.size, S.code1, S.code2, S.said, S.ended, fun c hc => ?_, ?_⟩
  · obtain ⟨i, i0, i1, rfl⟩ := mem_callAt hc
    have n := G.nd i ⟨i0, i1⟩
    refine form_iff.mpr ⟨n.m0, n.m1, n.pc0, n.pc1, n.temps, n.stack, S.snd _ hc, hs1 i ⟨i0, i1⟩, fun v hv => vok_heap.mp (n.tv v hv), fun v hv => vok_heap.mp (n.sv v hv), fun hd => ?_⟩
    obtain ⟨k1, k2⟩ := n.dead hd
    refine ⟨?_, k2⟩
    have k1 : (if (callAt h.calls i).sender < 0 then none else some (callAt h.calls i).sender) = none := k1
    split at k1
    · have := S.snd _ hc; omega
    · cases k1
  · obtain ⟨l, hw, hcov, hroom⟩ := G.way
    exact ⟨l, (way_heap S.now2 hs1).mpr hw, fun x x0 x1 hd => hcov x ⟨x0, x1⟩ hd, hroom⟩
def seenH (g : Gr ν) (ss : List ν) (born : Int) (said : List V) (code : Int) : Hp := ⟨ss.map (seen g ss), (match g.now with | none => -1 | some a => (ss.idxOf a : Int)), born, said, code⟩
def atR (ss : List ν) : ν → Int → Prop := fun a i => 0 ≤ i ∧ ss[i.toNat]? = some a
theorem idx_get {l : List ν} {a : ν} (h : a ∈ l) : l[l.idxOf a]? = some a := by
  induction l with
  | nil => simp at h
  | cons x l ih =>
    rw [List.idxOf_cons]
    by_cases e : x = a
    · subst e; simp
    · have : (x == a) = false := by simpa using e
      rw [this]
      simp only [cond_false]
      rw [List.getElem?_cons_succ]
      exact ih (by rcases List.mem_cons.mp h with h | h; exact absurd h.symm e; exact h)
theorem nodup_get : ∀ {l : List ν}, l.Nodup → ∀ {i j : Nat} {a : ν}, l[i]? = some a → l[j]? = some a → i = j
  | [], _, _, _, _, hi, _ => by simp at hi
  | x :: l, h, 0, 0, a, _, _ => rfl
  | x :: l, h, 0, j + 1, a, hi, hj => by
    obtain rfl : x = a := by simpa using hi
    exact absurd (List.mem_of_getElem? (by simpa using hj)) (List.nodup_cons.mp h).1
  | x :: l, h, i + 1, 0, a, hi, hj => by
    obtain rfl : x = a := by simpa using hj
    exact absurd (List.mem_of_getElem? (by simpa using hi)) (List.nodup_cons.mp h).1
  | x :: l, h, i + 1, j + 1, a, hi, hj => by
    exact congrArg (· + 1) (nodup_get (l := l) (a := a) (List.nodup_cons.mp h).2 (by simpa using hi) (by simpa using hj))
theorem atR_inj {ss : List ν} (h : ss.Nodup) : Inj (atR ss) :=
  ⟨fun {a b c} r r' => by have := nodup_get h r.2 r'.2; have := r.1; have := r'.1; omega, fun {a b c} r r' => by have := r.2; rw [r'.2] at this; exact (Option.some.inj this).symm⟩
theorem atR_idx {ss : List ν} {a : ν} (h : a ∈ ss) : atR ss a (ss.idxOf a : Int) := ⟨by omega, by rw [Int.toNat_natCast]; exact idx_get h⟩
theorem callAt_seen {g : Gr ν} {ss : List ν} {born code : Int} {said : List V} {a : ν} {i : Int} (r : atR ss a i) : callAt (seenH g ss born said code).calls i = seen g ss a := by
  unfold callAt seenH
  simp only
  rw [List.getD_eq_getElem?_getD, List.getElem?_map, r.2]; rfl
structure Whole (g : Gr ν) (ss : List ν) : Prop where
  nodup : ss.Nodup
  now : ∀ a, g.now = some a → a ∈ ss
  refs : ∀ a ∈ ss, ∀ b ∈ refs g a, b ∈ ss
theorem refs_sender {g : Gr ν} {a b : ν} (h : g.sender a = some b) : b ∈ refs g a := by unfold refs; rw [h]; simp
theorem refs_temp {g : Gr ν} {a : ν} {v : V} (h : v ∈ g.temps a) (h2 : v.1 = 2) : g.rf v.2 ∈ refs g a := by
  unfold refs
  refine List.mem_append.mpr (.inr (List.mem_append.mpr (.inl (List.mem_filterMap.mpr ⟨v, h, ?_⟩))))
  unfold refV; rw [if_pos h2]
theorem refs_stack {g : Gr ν} {a : ν} {v : V} (h : v ∈ g.stack a) (h2 : v.1 = 2) : g.rf v.2 ∈ refs g a := by
  unfold refs
  refine List.mem_append.mpr (.inr (List.mem_append.mpr (.inr (List.mem_filterMap.mpr ⟨v, h, ?_⟩))))
  unfold refV; rw [if_pos h2]
theorem name_rel {g : Gr ν} {ss : List ν} {l : List V} (h : ∀ v ∈ l, v.1 = 2 → g.rf v.2 ∈ ss) : RL (RV (atR ss) g.rf (fun n => n)) l (l.map (nameV g ss)) := by
  refine RL.of (by simp) (fun i a b ha hb => ?_)
  rw [List.getElem?_map, ha] at hb
  obtain rfl := Option.some.inj hb
  have hm := List.mem_of_getElem? ha
  unfold nameV
  by_cases e : a.1 = 2
  · rw [if_pos e]; exact ⟨rfl, fun _ => atR_idx (h a hm e), fun e' => absurd e e'⟩
  · rw [if_neg e]; exact ⟨rfl, fun e' => absurd e' e, fun _ => rfl⟩
theorem seen_iso {g : Gr ν} {ss : List ν} (W : Whole g ss) (born code : Int) (said : List V) : Iso g (GH (seenH g ss born said code)) (atR ss) := by
  refine iso_of (atR_inj W.nodup) (fun a i r => ?_) ?_
  · have e := callAt_seen (g := g) (born := born) (code := code) (said := said) r
    have ha : a ∈ ss := List.mem_of_getElem? r.2
    refine ⟨?_, ?_, ?_, ?_, ?_, ?_⟩
    · show g.met a = (callAt (seenH g ss born said code).calls i).method; rw [e]; rfl
    · show g.pc a = (callAt (seenH g ss born said code).calls i).pc; rw [e]; rfl
    · show g.dead a = (callAt (seenH g ss born said code).calls i).dead; rw [e]; rfl
    · show RL _ (g.temps a) (callAt (seenH g ss born said code).calls i).temps
      rw [e]
      exact name_rel (fun v hv h2 => W.refs a ha _ (refs_temp hv h2))
    · show RL _ (g.stack a) (callAt (seenH g ss born said code).calls i).stack
      rw [e]
      exact name_rel (fun v hv h2 => W.refs a ha _ (refs_stack hv h2))
    · show RO _ (g.sender a) (if (callAt (seenH g ss born said code).calls i).sender < 0 then none else some (callAt (seenH g ss born said code).calls i).sender)
      rw [e]
      unfold seen
      cases hs : g.sender a with
      | none => simp [RO]
      | some b =>
        simp only
        rw [if_neg (by omega)]
        exact atR_idx (W.refs a ha b (refs_sender hs))
  · show RO _ g.now (if (seenH g ss born said code).now < 0 then none else some (seenH g ss born said code).now)
    unfold seenH
    cases hn : g.now with
    | none => simp [RO]
    | some a =>
      simp only
      rw [if_neg (by omega)]
      exact atR_idx (W.now a hn)
theorem seen_len {g : Gr ν} {ss : List ν} {born code : Int} {said : List V} : (seenH g ss born said code).calls.length = ss.length := by unfold seenH; simp
theorem seen_in {g : Gr ν} {ss : List ν} {born code : Int} {said : List V} {i : Int} : InH (seenH g ss born said code) i ↔ ∃ a, atR ss a i := by
  unfold InH
  rw [seen_len]
  constructor
  · intro ⟨h0, h1⟩
    exact ⟨ss[i.toNat]'(by omega), h0, List.getElem?_eq_getElem (by omega)⟩
  · rintro ⟨a, h0, h1⟩
    have := (List.getElem?_eq_some_iff.mp h1).1
    exact ⟨h0, by omega⟩
theorem seen_ok {p : Pg} {g : Gr ν} {D : ν → Prop} {ss : List ν} {born code : Int} {said : List V} (G : GOK p g D) (W : Whole g ss) (hD : ∀ a ∈ ss, D a) (hp : progOk p = true) (b1 : 1 ≤ born) (b2 : born ≤ 30) (hsz : (ss.length : Int) ≤ born)
    (c1 : 0 ≤ code) (c2 : code ≤ 3) (hs : saidOk p said = true) (he : code = 1 ↔ g.now = none) : HOK p (seenH g ss born said code) := by
  have now : (seenH g ss born said code).now = match g.now with | none => -1 | some a => (ss.idxOf a : Int) := rfl
  have hlt : ∀ a, g.now = some a → ss.idxOf a < ss.length := fun a ha => by
    have := idx_get (W.now a ha)
    exact (List.getElem?_eq_some_iff.mp this).1
  refine hok_of_gok ⟨hp, ?_, ?_, b1, b2, by rw [seen_len]; exact hsz, c1, c2, hs, ?_, fun c hc => ?_⟩ (G.iso (seen_iso W born code said) (fun i hi => ?_) (fun a i r ha => seen_in.mpr ⟨a, r⟩))
  · rw [now]; split <;> omega
  · rw [now, seen_len]
    split
    · omega
    · rename_i a ha; have := hlt a ha; omega
  · rw [now]
    show code = 1 ↔ _
    rw [he]
    cases g.now with
    | none => simp
    | some a => simp
  · have hc : c ∈ ss.map (seen g ss) := hc
    obtain ⟨a, _, rfl⟩ := List.mem_map.mp hc
    unfold seen
    simp only
    split <;> omega
  · obtain ⟨a, r⟩ := seen_in.mp hi
    exact ⟨a, r, hD a (List.mem_of_getElem? r.2)⟩
theorem found_whole {g : Gr ν} {D : List ν} (F : Fin' g D) : Whole g (found g D.length) := by
  obtain ⟨h1, h2, h3⟩ := found_len F D.length
  refine ⟨h1, fun a ha => ?_, found_closed h3⟩
  exact List.mem_of_getElem? (found_head ha)
end Go.PT
namespace Go.PT
structure Fm where
  method : Int
  pc : Int
  twin : Int
  temps : List V
  stack : List V
structure Pn where
  base : Int
  frames : List Fm
structure Tw where
  page : Int
  at' : Int
  left : Cl
structure Mc where
  cells : Int
  pages : List Pn
  order : List Int
  now : Int
  twins : List Tw
  born : Int
  said : List V
  code : Int
def fm0 : Fm := ⟨0, 0, 0, [], []⟩
def pn0 : Pn := ⟨0, []⟩
def tw0 : Tw := ⟨0, 0, call0⟩
def fmOf (fs : List Fm) (k : Int) : Fm := fs.getD k.toNat fm0
def pnAt (m : Mc) (i : Int) : Pn := m.pages.getD i.toNat pn0
def fmAt (m : Mc) (i k : Int) : Fm := fmOf (pnAt m i).frames k
def twAt (m : Mc) (t : Int) : Tw := m.twins.getD t.toNat tw0
def nF (m : Mc) (i : Int) : Int := (pnAt m i).frames.length
def putPn (m : Mc) (i : Int) (g : Pn) : Mc := { m with pages := m.pages.set i.toNat g }
def putTw (m : Mc) (t : Int) (x : Tw) : Mc := { m with twins := m.twins.set t.toNat x }
def fmCl (f : Fm) (s : Int) : Cl := ⟨f.method, f.pc, f.temps, f.stack, s, false⟩
def clFm (c : Cl) (t : Int) : Fm := ⟨c.method, c.pc, t, c.temps, c.stack⟩
def topK (m : Mc) : Int := nF m m.now - 1
def sizeF (p : Pg) (k : Int) : Int := 4 + (methAt p k).temps + 6
def fullP (p : Pg) (fs : List Fm) : Int := (fs.map (fun f => sizeF p f.method)).sum
def FormF (p : Pg) (n : Int) (f : Fm) : Prop := FormP p n (fmCl f (-1)) ∧ -1 ≤ f.twin ∧ f.twin < n
structure PnOk (p : Pg) (m : Mc) (i : Int) : Prop where
  b0 : -1 ≤ (pnAt m i).base
  b1 : (pnAt m i).base < m.twins.length
  empty : (pnAt m i).frames = [] → (pnAt m i).base = -1
  form : ∀ k : Int, 0 ≤ k → k < nF m i → FormF p m.twins.length (fmAt m i k)
  tells : ∀ k : Int, 0 ≤ k → k < nF m i → 0 ≤ (fmAt m i k).twin → (twAt m (fmAt m i k).twin).page = i ∧ (twAt m (fmAt m i k).twin).at' = k
  full : fullP p (pnAt m i).frames ≤ m.cells
  based : 0 ≤ (pnAt m i).base → 0 ≤ (twAt m (pnAt m i).base).page → (twAt m (pnAt m i).base).at' = nF m (twAt m (pnAt m i).base).page - 1
structure TwOk (p : Pg) (m : Mc) (t : Int) : Prop where
  off : (twAt m t).page < 0 → (twAt m t).page = -1 ∧ (twAt m t).at' = 0 ∧ FormP p m.twins.length (twAt m t).left
  on : 0 ≤ (twAt m t).page → (twAt m t).page < m.pages.length ∧ 0 ≤ (twAt m t).at' ∧ (twAt m t).at' < nF m (twAt m t).page ∧ (fmAt m (twAt m t).page (twAt m t).at').twin = t ∧ (twAt m t).left = call0
structure Sp where
  twin : Int
  page : Int
  at' : Int
deriving DecidableEq
def twSp (t : Int) : Sp := ⟨t, 0, 0⟩
def spAt (m : Mc) (i k : Int) : Sp := if 0 ≤ (fmAt m i k).twin then twSp (fmAt m i k).twin else ⟨-1, i, k⟩
def plP (m : Mc) (s : Sp) : Int := if s.twin < 0 then s.page else (twAt m s.twin).page
def plK (m : Mc) (s : Sp) : Int := if s.twin < 0 then s.at' else (twAt m s.twin).at'
def clOf (m : Mc) (s : Sp) : Cl := if plP m s < 0 then (twAt m s.twin).left else fmCl (fmAt m (plP m s) (plK m s)) 0
def toSp (t : Int) : Option Sp := if t < 0 then none else some (twSp t)
def sndOf (m : Mc) (s : Sp) : Option Sp := if plP m s < 0 then toSp (twAt m s.twin).left.sender else if 0 < plK m s then some (spAt m (plP m s) (plK m s - 1)) else toSp (pnAt m (plP m s)).base
def topSp (m : Mc) : Option Sp := if 0 ≤ m.now ∧ m.now < m.pages.length ∧ (pnAt m m.now).frames ≠ [] then some (spAt m m.now (topK m)) else none
def GM (m : Mc) : Gr Sp where
  now := topSp m
  met := fun s => (clOf m s).method
  pc := fun s => (clOf m s).pc
  temps := fun s => (clOf m s).temps
  stack := fun s => (clOf m s).stack
  sender := sndOf m
  dead := fun s => (clOf m s).dead
  rf := twSp
def InM (m : Mc) (s : Sp) : Prop := (0 ≤ s.twin ∧ s.twin < m.twins.length ∧ s.page = 0 ∧ s.at' = 0) ∨ (s.twin = -1 ∧ 0 ≤ s.page ∧ s.page < m.pages.length ∧ 0 ≤ s.at' ∧ s.at' < nF m s.page ∧ (fmAt m s.page s.at').twin < 0)
def framesN (m : Mc) : Int := (m.pages.map (fun g => (g.frames.length : Int))).sum
def offN (m : Mc) : Int := (m.twins.filter (fun t => decide (t.page < 0) && !t.left.dead)).length
def liveM (m : Mc) : Int := framesN m + offN m
structure MOK (p : Pg) (m : Mc) : Prop where
  prog : progOk p = true
  rooms1 : 1 ≤ m.pages.length
  rooms2 : m.pages.length ≤ 4
  cells1 : 14 ≤ m.cells
  cells2 : m.cells ≤ 60
  olen : m.order.length = m.pages.length
  oall : ∀ i : Int, 0 ≤ i → i < m.pages.length → i ∈ m.order
  now1 : -1 ≤ m.now
  now2 : m.now < m.pages.length
  top : 0 ≤ m.now → (pnAt m m.now).frames ≠ [] ∧ m.order.getLast? = some m.now
  born1 : 1 ≤ m.born
  born2 : m.born ≤ 30
  code1 : 0 ≤ m.code
  code2 : m.code ≤ 3
  said : saidOk p m.said = true
  ended : m.code = 1 ↔ m.now < 0
  ntw : (m.twins.length : Int) ≤ m.born
  pn : ∀ i : Int, 0 ≤ i → i < m.pages.length → PnOk p m i
  tw : ∀ t : Int, 0 ≤ t → t < m.twins.length → TwOk p m t
  way : ∃ l, WayG (GM m) (topSp m) l ∧ (∀ s, InM m s → (clOf m s).dead = false → s ∈ l) ∧ ∀ s ∈ l.tail, ((clOf m s).stack.length : Int) < 6
def loadM (m : Mc) (t i : Int) : Mc := putTw (putPn m i ⟨(twAt m t).left.sender, [clFm (twAt m t).left t]⟩) t ⟨i, 0, call0⟩
def newF (p : Pg) (k : Int) (args : List V) : Fm := clFm (newC p k args (-1)) (-1)
end Go.PT
namespace Go.PT
theorem getD_set {α : Type} {l : List α} {i j : Int} {a d : α} (hi : 0 ≤ i) (hl : i < l.length) (hj : 0 ≤ j) : (l.set i.toNat a).getD j.toNat d = if j = i then a else l.getD j.toNat d := by
  rw [List.getD_eq_getElem?_getD, List.getD_eq_getElem?_getD, List.getElem?_set]
  by_cases h : j = i
  · subst h
    rw [if_pos rfl, if_pos (by omega), if_pos rfl]; rfl
  · rw [if_neg (by omega), if_neg h]
section
variable {m : Mc} {i j k t : Int} {g : Pn} {f : Fm} {x : Tw}
theorem putPn_len : (putPn m i g).pages.length = m.pages.length := by unfold putPn; simp
theorem putTw_len : (putTw m t x).twins.length = m.twins.length := by unfold putTw; simp
theorem pnAt_put (hi : 0 ≤ i) (hl : i < m.pages.length) (hj : 0 ≤ j) : pnAt (putPn m i g) j = if j = i then g else pnAt m j := getD_set hi hl hj
theorem twAt_put {u : Int} (hi : 0 ≤ t) (hl : t < m.twins.length) (hj : 0 ≤ u) : twAt (putTw m t x) u = if u = t then x else twAt m u := getD_set hi hl hj
end
structure WF (m : Mc) : Prop where
  fT : ∀ i k : Int, 0 ≤ i → i < m.pages.length → 0 ≤ k → k < nF m i → -1 ≤ (fmAt m i k).twin ∧ (fmAt m i k).twin < m.twins.length ∧ (0 ≤ (fmAt m i k).twin → (twAt m (fmAt m i k).twin).page = i ∧ (twAt m (fmAt m i k).twin).at' = k)
  tF : ∀ t : Int, 0 ≤ t → t < m.twins.length → -1 ≤ (twAt m t).page ∧ (0 ≤ (twAt m t).page → (twAt m t).page < m.pages.length ∧ 0 ≤ (twAt m t).at' ∧ (twAt m t).at' < nF m (twAt m t).page ∧ (fmAt m (twAt m t).page (twAt m t).at').twin = t)
  base : ∀ i : Int, 0 ≤ i → i < m.pages.length → -1 ≤ (pnAt m i).base ∧ (pnAt m i).base < m.twins.length
  snd : ∀ t : Int, 0 ≤ t → t < m.twins.length → (twAt m t).page < 0 → -1 ≤ (twAt m t).left.sender ∧ (twAt m t).left.sender < m.twins.length
  fv : ∀ i k : Int, 0 ≤ i → i < m.pages.length → 0 ≤ k → k < nF m i → ∀ v ∈ (fmAt m i k).temps ++ (fmAt m i k).stack, v.1 = 2 → 0 ≤ v.2 ∧ v.2 < m.twins.length
  tv : ∀ t : Int, 0 ≤ t → t < m.twins.length → (twAt m t).page < 0 → ∀ v ∈ (twAt m t).left.temps ++ (twAt m t).left.stack, v.1 = 2 → 0 ≤ v.2 ∧ v.2 < m.twins.length
theorem in_tw {m : Mc} {t : Int} (h0 : 0 ≤ t) (h1 : t < m.twins.length) : InM m (twSp t) := .inl ⟨h0, h1, rfl, rfl⟩
theorem in_sp {m : Mc} (W : WF m) {i k : Int} (i0 : 0 ≤ i) (i1 : i < m.pages.length) (k0 : 0 ≤ k) (k1 : k < nF m i) : InM m (spAt m i k) := by
  unfold spAt
  have := W.fT i k i0 i1 k0 k1
  split
  · exact in_tw (by assumption) this.2.1
  · exact .inr ⟨rfl, i0, i1, k0, k1, (by omega : (fmAt m i k).twin < 0)⟩
theorem place {m : Mc} (W : WF m) {s : Sp} (hs : InM m s) : (plP m s < 0 ∧ 0 ≤ s.twin ∧ s.twin < m.twins.length ∧ s = twSp s.twin ∧ plP m s = (twAt m s.twin).page) ∨ (0 ≤ plP m s ∧ plP m s < m.pages.length ∧ 0 ≤ plK m s ∧ plK m s < nF m (plP m s) ∧ spAt m (plP m s) (plK m s) = s) := by
  unfold plP plK
  rcases hs with ⟨h1, h2, h3, h4⟩ | ⟨h1, h2, h3, h4, h5, h6⟩
  · have e : s = twSp s.twin := by cases s; simp only [twSp] at *; subst h3 h4; rfl
    have ht := W.tF s.twin h1 h2
    rw [if_neg (by omega), if_neg (by omega)]
    by_cases hp : (twAt m s.twin).page < 0
    · exact .inl ⟨hp, h1, h2, e, rfl⟩
    · obtain ⟨q1, q2, q3, q4⟩ := ht.2 (by omega)
      refine .inr ⟨by omega, q1, q2, q3, ?_⟩
      unfold spAt
      rw [q4, if_pos h1]; exact e.symm
  · rw [if_pos (by omega), if_pos (by omega)]
    refine .inr ⟨h2, h3, h4, h5, ?_⟩
    unfold spAt
    rw [if_neg (by omega), ← h1]
theorem to_in {m : Mc} {t : Int} (h0 : -1 ≤ t) (h1 : t < m.twins.length) {b : Sp} (h : toSp t = some b) : InM m b := by
  unfold toSp at h
  split at h
  · cases h
  · obtain rfl := Option.some.inj h; exact in_tw (by omega) h1
theorem snd_in {m : Mc} (W : WF m) {s b : Sp} (hs : InM m s) (h : sndOf m s = some b) : InM m b := by
  unfold sndOf at h
  rcases place W hs with ⟨h1, h2, h3, h4, h5⟩ | ⟨h1, h2, h3, h4, h5⟩
  · rw [if_pos h1] at h
    have := W.snd s.twin h2 h3 (by omega)
    exact to_in this.1 this.2 h
  · rw [if_neg (by omega)] at h
    split at h
    · obtain rfl := Option.some.inj h
      exact in_sp W h1 h2 (by omega) (by omega)
    · have := W.base _ h1 h2
      exact to_in this.1 this.2 h
theorem val_in {m : Mc} (W : WF m) {s : Sp} (hs : InM m s) : ∀ v ∈ (clOf m s).temps ++ (clOf m s).stack, v.1 = 2 → 0 ≤ v.2 ∧ v.2 < m.twins.length := by
  unfold clOf
  rcases place W hs with ⟨h1, h2, h3, h4, h5⟩ | ⟨h1, h2, h3, h4, h5⟩
  · rw [if_pos h1]; exact W.tv s.twin h2 h3 (by omega)
  · rw [if_neg (by omega)]; exact W.fv _ _ h1 h2 h3 h4
def nmV (ix : Sp → Int) (v : V) : V := if v.1 = 2 then (v.1, ix (twSp v.2)) else v
def rnm (ix : Sp → Int) (c : Cl) (s : Option Sp) : Cl := ⟨c.method, c.pc, c.temps.map (nmV ix), c.stack.map (nmV ix), match s with | none => -1 | some b => ix b, c.dead⟩
structure Img (m : Mc) (cs : List Cl) (ix : Sp → Int) : Prop where
  rng : ∀ s, InM m s → 0 ≤ ix s ∧ ix s < cs.length
  inj : ∀ s t, InM m s → InM m t → ix s = ix t → s = t
  is : ∀ s, InM m s → callAt cs (ix s) = rnm ix (clOf m s) (sndOf m s)
structure ClEq (c d : Cl) : Prop where
  method : c.method = d.method
  pc : c.pc = d.pc
  temps : c.temps = d.temps
  stack : c.stack = d.stack
  dead : c.dead = d.dead
theorem ClEq.refl (c : Cl) : ClEq c c := ⟨rfl, rfl, rfl, rfl, rfl⟩
theorem rnm_eq {ix ix' : Sp → Int} {c d : Cl} {s s' : Option Sp} (h : ClEq c d) (hv : ∀ v ∈ c.temps ++ c.stack, v.1 = 2 → ix' (twSp v.2) = ix (twSp v.2)) (hs : (match s' with | none => (-1 : Int) | some b => ix' b) = (match s with | none => -1 | some b => ix b)) : rnm ix' d s' = rnm ix c s := by
  have hm : ∀ l : List V, (∀ v ∈ l, v.1 = 2 → ix' (twSp v.2) = ix (twSp v.2)) → l.map (nmV ix') = l.map (nmV ix) := fun l hl => List.map_congr_left (fun v hv => by
    unfold nmV
    split
    · rw [hl v hv (by assumption)]
    · rfl)
  unfold rnm
  rw [← h.method, ← h.pc, ← h.temps, ← h.stack, ← h.dead, hm _ (fun v hv' => hv v (List.mem_append.mpr (.inl hv'))), hm _ (fun v hv' => hv v (List.mem_append.mpr (.inr hv')))]
  congr 1
theorem Img.move {m m' : Mc} {cs : List Cl} {ix ix' : Sp → Int} (σ : Sp → Sp) (W : WF m) (I : Img m cs ix) (h1 : ∀ s', InM m' s' → ∃ s, InM m s ∧ σ s = s') (h2 : ∀ s, InM m s → ClEq (clOf m s) (clOf m' (σ s)) ∧ sndOf m' (σ s) = (sndOf m s).map σ)
    (h3 : ∀ s, InM m s → ix' (σ s) = ix s) (h4 : ∀ t : Int, 0 ≤ t → t < m.twins.length → σ (twSp t) = twSp t) : Img m' cs ix' := by
  refine ⟨fun s' hs' => ?_, fun s' t' hs' ht' e => ?_, fun s' hs' => ?_⟩
  · obtain ⟨s, hs, rfl⟩ := h1 s' hs'
    rw [h3 s hs]; exact I.rng s hs
  · obtain ⟨s, hs, rfl⟩ := h1 s' hs'
    obtain ⟨t, ht, rfl⟩ := h1 t' ht'
    rw [h3 s hs, h3 t ht] at e
    rw [I.inj s t hs ht e]
  · obtain ⟨s, hs, rfl⟩ := h1 s' hs'
    rw [h3 s hs, I.is s hs]
    obtain ⟨q1, q2⟩ := h2 s hs
    refine (rnm_eq q1 (fun v hv e => ?_) ?_).symm
    · obtain ⟨v0, v1⟩ := val_in W hs v hv e
      have := h3 _ (in_tw v0 v1)
      rwa [h4 _ v0 v1] at this
    · rw [q2]
      cases hb : sndOf m s with
      | none => rfl
      | some b => exact h3 b (snd_in W hs hb)
end Go.PT
namespace Go.PT
def sndN (m : Mc) (i k : Int) : Int := if 0 < k then (fmAt m i (k - 1)).twin else (pnAt m i).base
def offT (m : Mc) (i k : Int) (x : Tw) : Tw := if x.page = i ∧ x.at' < k then ⟨-1, 0, fmCl (fmAt m i x.at') (sndN m i x.at')⟩ else x
def conv (m : Mc) (i k : Int) : Mc := { m with twins := m.twins.map (offT m i k) }
end Go.PT
namespace Go.PT
theorem loadM_spec {m : Mc} {t i : Int} {cs : List Cl} {ix : Sp → Int} (W : WF m) (I : Img m cs ix) (i0 : 0 ≤ i) (i1 : i < m.pages.length) (t0 : 0 ≤ t) (t1 : t < m.twins.length) (hp : (twAt m t).page < 0) (hd : (twAt m t).left.dead = false) (hn : nF m i = 0) :
    WF (loadM m t i) ∧ Img (loadM m t i) cs ix := by
  have hpn : ∀ j : Int, 0 ≤ j → pnAt (loadM m t i) j = if j = i then ⟨(twAt m t).left.sender, [clFm (twAt m t).left t]⟩ else pnAt m j := fun j hj => pnAt_put (m := m) i0 i1 hj
  have hlen : (loadM m t i).pages.length = m.pages.length := putPn_len
  have hT : (loadM m t i).twins.length = m.twins.length := putTw_len (m := putPn m i _)
  have htw : ∀ u : Int, 0 ≤ u → twAt (loadM m t i) u = if u = t then ⟨i, 0, call0⟩ else twAt m u := fun u hu => twAt_put (m := putPn m i ⟨(twAt m t).left.sender, [clFm (twAt m t).left t]⟩) t0 t1 hu
  have hnf : ∀ j : Int, 0 ≤ j → j ≠ i → nF (loadM m t i) j = nF m j := fun j hj hne => by unfold nF; rw [hpn j hj, if_neg hne]
  have hnfi : nF (loadM m t i) i = 1 := by unfold nF; rw [hpn i i0, if_pos rfl]; rfl
  have hfm : ∀ j q : Int, 0 ≤ j → j ≠ i → fmAt (loadM m t i) j q = fmAt m j q := fun j q hj hne => by unfold fmAt; rw [hpn j hj, if_neg hne]
  have hfi : fmAt (loadM m t i) i 0 = clFm (twAt m t).left t := by unfold fmAt; rw [hpn i i0, if_pos rfl]; rfl
  have hpage : ∀ u : Int, 0 ≤ u → u < m.twins.length → (twAt m u).page ≠ i := fun u u0 u1 e => by
    obtain ⟨_, q2, q3, _⟩ := (W.tF u u0 u1).2 (by omega)
    rw [e, hn] at q3; omega
  refine ⟨⟨fun j q a b c d => ?_, fun u a b => ?_, fun j a b => ?_, fun u a b c => ?_, fun j q a b c d v hv e => ?_, fun u a b c v hv e => ?_⟩, ?_⟩
  · rw [hlen] at b
    by_cases hj : j = i
    · subst hj
      rw [hnfi] at d
      have : q = 0 := by omega
      subst this
      rw [hfi, hT]
      show -1 ≤ t ∧ t < _ ∧ (0 ≤ t → (twAt _ t).page = j ∧ (twAt _ t).at' = 0)
      rw [htw t t0, if_pos rfl]
      exact ⟨by omega, t1, fun _ => ⟨rfl, rfl⟩⟩
    · rw [hnf j a hj] at d
      rw [hfm j q a hj, hT]
      have := W.fT j q a b c d
      refine ⟨this.1, this.2.1, fun h => ?_⟩
      obtain ⟨e1, e2⟩ := this.2.2 h
      rw [htw _ h, if_neg (fun e => by rw [e] at e1; omega)]
      exact ⟨e1, e2⟩
  · rw [hT] at b
    rw [htw u a, hlen]
    split
    · rename_i e
      refine ⟨by show -1 ≤ i; omega, fun _ => ⟨i1, Int.le_refl _, ?_, ?_⟩⟩
      · show (0 : Int) < nF (loadM m t i) i; rw [hnfi]; omega
      · show (fmAt (loadM m t i) i 0).twin = u; rw [hfi, e]; rfl
    · have := W.tF u a b
      refine ⟨this.1, fun h => ?_⟩
      have hne := hpage u a b
      rw [hnf _ h hne, hfm _ _ h hne]
      exact this.2 h
  · rw [hlen] at b
    rw [hpn j a, hT]
    split
    · exact W.snd t t0 t1 hp
    · exact W.base j a b
  · rw [hT] at b ⊢
    rw [htw u a] at c ⊢
    split at c
    · have : i < 0 := c; omega
    · rename_i h; rw [if_neg h]; exact W.snd u a b c
  · rw [hlen] at b
    rw [hT]
    by_cases hj : j = i
    · subst hj
      rw [hnfi] at d
      have : q = 0 := by omega
      subst this
      rw [hfi] at hv
      exact W.tv t t0 t1 hp v hv e
    · rw [hnf j a hj] at d
      rw [hfm j q a hj] at hv
      exact W.fv j q a b c d v hv e
  · rw [hT] at b ⊢
    rw [htw u a] at c hv
    split at c
    · have : i < 0 := c; omega
    · rename_i h; rw [if_neg h] at hv; exact W.tv u a b c v hv e
  · refine I.move (fun s => s) W (fun s' hs' => ⟨s', ?_, rfl⟩) (fun s hs => ?_) (fun _ _ => rfl) (fun _ _ _ => rfl)
    · rcases hs' with ⟨h1, h2, h3, h4⟩ | ⟨h1, h2, h3, h4, h5, h6⟩
      · rw [hT] at h2; exact .inl ⟨h1, h2, h3, h4⟩
      · rw [hlen] at h3
        by_cases hj : s'.page = i
        · rw [hj, hnfi] at h5
          have : s'.at' = 0 := by omega
          rw [hj, this, hfi] at h6
          have h6 : t < 0 := h6
          omega
        · rw [hnf _ h2 hj] at h5
          rw [hfm _ _ h2 hj] at h6
          exact .inr ⟨h1, h2, h3, h4, h5, h6⟩
    · have hto : ∀ b : Option Sp, b.map (fun s => s) = b := fun b => by cases b <;> rfl
      rw [hto]
      rcases hs with ⟨u0, u1, e1, e2⟩ | ⟨h1, h2, h3, h4, h5, h6⟩
      · have e : s = twSp s.twin := by cases s; simp only [twSp] at *; subst e1 e2; rfl
        generalize s.twin = u at *
        subst e
        have p1 : plP (loadM m t i) (twSp u) = (if u = t then i else (twAt m u).page) := by
          unfold plP twSp; simp only; rw [if_neg (by omega), htw u u0]; split <;> rfl
        have p2 : plK (loadM m t i) (twSp u) = (if u = t then 0 else (twAt m u).at') := by
          unfold plK twSp; simp only; rw [if_neg (by omega), htw u u0]; split <;> rfl
        have p3 : plP m (twSp u) = (twAt m u).page := by unfold plP twSp; simp only; rw [if_neg (by omega)]
        have p4 : plK m (twSp u) = (twAt m u).at' := by unfold plK twSp; simp only; rw [if_neg (by omega)]
        by_cases e : u = t
        · subst e
          rw [if_pos rfl] at p1 p2
          constructor
          · unfold clOf
            rw [p1, p2, p3, if_pos hp, if_neg (by omega), hfi]
            exact ⟨rfl, rfl, rfl, rfl, hd⟩
          · unfold sndOf
            rw [p1, p2, p3, if_pos hp, if_neg (by omega), if_neg (by omega), hpn i i0, if_pos rfl]; rfl
        · rw [if_neg e] at p1 p2
          have hne := hpage u u0 u1
          have hW := W.tF u u0 u1
          constructor
          · unfold clOf
            rw [p1, p2, p3, p4]
            split
            · show ClEq (twAt m u).left (twAt _ u).left
              rw [htw u u0, if_neg e]; exact .refl _
            · rw [hfm _ _ (by omega) hne]; exact .refl _
          · unfold sndOf
            rw [p1, p2, p3, p4]
            split
            · show toSp (twAt _ u).left.sender = toSp (twAt m u).left.sender
              rw [htw u u0, if_neg e]
            · split
              · unfold spAt; rw [hfm _ _ (by omega) hne]
              · rw [hpn _ (by omega), if_neg hne]
      · have hj : s.page ≠ i := fun e => by rw [e, hn] at h5; omega
        have p1 : plP (loadM m t i) s = s.page := by unfold plP; rw [if_pos (by omega)]
        have p2 : plK (loadM m t i) s = s.at' := by unfold plK; rw [if_pos (by omega)]
        have p3 : plP m s = s.page := by unfold plP; rw [if_pos (by omega)]
        have p4 : plK m s = s.at' := by unfold plK; rw [if_pos (by omega)]
        constructor
        · unfold clOf
          have hn0 : ¬ s.page < 0 := by omega
          rw [p1, p2, p3, p4, if_neg hn0, if_neg hn0, hfm _ _ h2 hj]; exact .refl _
        · unfold sndOf
          have hn0 : ¬ s.page < 0 := by omega
          rw [p1, p2, p3, p4, if_neg hn0, if_neg hn0]
          split
          · unfold spAt; rw [hfm _ _ h2 hj]
          · rw [hpn _ h2, if_neg hj]
end Go.PT
namespace Go.PT
theorem WF.same {m m' : Mc} (W : WF m) (hp : m'.pages = m.pages) (ht : m'.twins = m.twins) : WF m' := by
  cases m; cases m'; simp only at hp ht; subst hp ht; exact ⟨W.fT, W.tF, W.base, W.snd, W.fv, W.tv⟩
theorem Img.same {m m' : Mc} {cs : List Cl} {ix : Sp → Int} (I : Img m cs ix) (hp : m'.pages = m.pages) (ht : m'.twins = m.twins) : Img m' cs ix := by
  cases m; cases m'; simp only at hp ht; subst hp ht; exact ⟨I.rng, I.inj, I.is⟩
theorem pl_sp {m : Mc} (W : WF m) {i k : Int} (i0 : 0 ≤ i) (i1 : i < m.pages.length) (k0 : 0 ≤ k) (k1 : k < nF m i) : plP m (spAt m i k) = i ∧ plK m (spAt m i k) = k := by
  have := W.fT i k i0 i1 k0 k1
  unfold spAt
  split
  · rename_i h
    obtain ⟨e1, e2⟩ := this.2.2 h
    unfold plP plK twSp
    simp only
    rw [if_neg (by omega), if_neg (by omega)]
    exact ⟨e1, e2⟩
  · unfold plP plK
    exact ⟨if_pos (by show (-1 : Int) < 0; decide), if_pos (by show (-1 : Int) < 0; decide)⟩
theorem sp_inj {m : Mc} (W : WF m) {i k j q : Int} (i0 : 0 ≤ i) (i1 : i < m.pages.length) (k0 : 0 ≤ k) (k1 : k < nF m i) (j0 : 0 ≤ j) (j1 : j < m.pages.length) (q0 : 0 ≤ q) (q1 : q < nF m j) (e : spAt m i k = spAt m j q) : i = j ∧ k = q := by
  have a := pl_sp W i0 i1 k0 k1
  have b := pl_sp W j0 j1 q0 q1
  rw [e] at a
  exact ⟨a.1.symm.trans b.1, a.2.symm.trans b.2⟩
theorem clOf_sp {m : Mc} (W : WF m) {i k : Int} (i0 : 0 ≤ i) (i1 : i < m.pages.length) (k0 : 0 ≤ k) (k1 : k < nF m i) : clOf m (spAt m i k) = fmCl (fmAt m i k) 0 := by
  obtain ⟨a, b⟩ := pl_sp W i0 i1 k0 k1
  unfold clOf
  rw [a, b, if_neg (by omega)]
theorem sndOf_sp {m : Mc} (W : WF m) {i k : Int} (i0 : 0 ≤ i) (i1 : i < m.pages.length) (k0 : 0 ≤ k) (k1 : k < nF m i) : sndOf m (spAt m i k) = if 0 < k then some (spAt m i (k - 1)) else toSp (pnAt m i).base := by
  obtain ⟨a, b⟩ := pl_sp W i0 i1 k0 k1
  unfold sndOf
  rw [a, b, if_neg (by omega)]
end Go.PT
