/- What the claim of FnMoveBack leans on, part 1 of 16. -/
import Derived.Calls
import Derived.Orders
import Derived.LoopN
import Derived.Tactics
import Derived.Laws.World
import Derived.Laws.Sem
import Derived.KernelRfl
import Derived.Laws.Entries
set_option linter.unusedVariables false
set_option linter.unusedSimpArgs false
set_option linter.unusedSectionVars false
set_option maxRecDepth 100000
namespace Go.PT
abbrev Env := Nat → Value
def upd (e : Env) (d : Nat) (v : Value) : Env := fun j => bif Nat.beq j d then v else e j
def putE (e : Env) (d : Option Nat) (v : Value) : Env :=
  match d with
  | some d => upd e d v
  | none => e
def ev (e : Env) : Operand → Value
  | .tmp t => e t
  | .const v => v
  | .global g => .pointer (some ⟨g, 0, none⟩)
  | .func f => .func (.func f) #[] #[]
def envA (a : Act) : Env := fun j => a.tmps.getD j undef
def mix : List Nat → List Value → Env → Env
  | [], _, junk => junk
  | t :: ts, s, junk => upd (mix ts s.tail junk) t (s.headD undef)
abbrev VW := Value → World → Prop
abbrev LW := List Value → World → Prop
def allocT (t : Nat) (z : Array Value) (w : World) (k : VW) : Prop := k (.pointer (some ⟨w.heap.size, 0, none⟩)) (w.alloc (.cells z t))
def boxT (t : Nat) (v : Value) (w : World) (k : VW) : Prop := k (.pointer (some ⟨w.heap.size, 0, none⟩)) (w.alloc (.cells v.cells t))
def splice (cs : Array Value) (off : Nat) (vs : Array Value) : Array Value := vs.zipIdx.foldl (fun cs (c, j) => cs.setIfInBounds (off + j) c) cs
def fillT (cells : Array Value) : List (Nat × Nat × Value) → Option (Array Value)
  | [] => some cells
  | (off, size, v) :: rest => if v.cells.size ≠ size || off + v.cells.size > cells.size then none else fillT (splice cells off v.cells) rest
def bldT (z : Array Value) (parts : List (Nat × Nat × Value)) (k : Value → Prop) : Prop :=
  match fillT z parts with
  | some cs => k (.agg cs)
  | none => False
def bslT (e n size : Nat) (z : Array Value) (parts : List (Nat × Nat × Value)) (w : World) (k : VW) : Prop :=
  match fillT ((Array.range (n * size)).map (z[· % z.size]!)) parts with
  | some cs => k (.slice (some ⟨w.heap.size, 0, none⟩) n n) (w.alloc (.cells cs e))
  | none => False
def ldT (a : Value) (w : World) (k : Value → Prop) : Prop :=
  match a with
  | .pointer (some a) => (match w.cell? a with | some v => k v | none => False)
  | _ => False
def rdN (w : World) (a : Addr) : Nat → Nat → Option (List Value)
  | 0, _ => some []
  | n + 1, i =>
    match w.cell? (a.add i), rdN w a n (i + 1) with
    | some v, some vs => some (v :: vs)
    | _, _ => none
def ldsT (n : Nat) (a : Value) (w : World) (k : Value → Prop) : Prop :=
  match a with
  | .pointer (some a) => (match rdN w a n 0 with | some vs => k (.agg vs.toArray) | none => False)
  | _ => False
def stT (a v : Value) (w : World) (k : World → Prop) : Prop :=
  match a with
  | .pointer (some a) => v.oneCell' = true ∧ (w.cell? a).isSome = true ∧ w.frozen? a = false ∧ k (w.setCell a v)
  | _ => False
def stN (w : World) (a : Addr) : List Value → Nat → Option World
  | [], _ => some w
  | v :: vs, i => if v.oneCell' = true ∧ (w.cell? (a.add i)).isSome = true ∧ w.frozen? (a.add i) = false then stN (w.setCell (a.add i) v) a vs (i + 1) else none
def stsT (n : Nat) (a v : Value) (w : World) (k : World → Prop) : Prop :=
  match a with
  | .pointer (some a) => v.cells.size = n ∧ (match stN w a v.cells.toList 0 with | some w' => k w' | none => False)
  | _ => False
def nimT (P : Program) (name : String) (first captured : Array Value) (k : Value → Prop) : Prop :=
  match (first[0]? : Option Value) with
  | some (.iface t v) => (∀ w : World, (nilAhead (P.types.size + Made.depth) t v name).run P w = .ok (some false) w) ∧ k (.func (.method name) first captured)
  | _ => False
def nilT (P : Program) (v : Value) (k : Value → Prop) : Prop :=
  match v with
  | .pointer (some a) => k (.pointer (some a))
  | .func (.func f) x y => k (.func (.func f) x y)
  | .func (.method name) x y => nimT P name x y k
  | .iface t x => k (.iface t x)
  | _ => False
def fadT (off : Nat) (v : Value) (k : Value → Prop) : Prop :=
  match v with
  | .pointer (some ⟨b, o, none⟩) => k (.pointer (some ⟨b, o + off, none⟩))
  | _ => False
def ixaT (size : Nat) (v i : Value) (k : Value → Prop) : Prop :=
  match v, i with
  | .slice (some ⟨b, o, none⟩) n _, .int _ j => 0 ≤ j ∧ j < n ∧ k (.pointer (some ⟨b, o + j.toNat * size, none⟩))
  | _, _ => False
def fldT (agg : Bool) (off size : Nat) (v : Value) (k : Value → Prop) : Prop :=
  match v with
  | .agg cs => bif agg then k (.agg (cs.extract off (off + size))) else (match cs[off]? with | some x => k x | none => False)
  | _ => False
def extT (v : Value) (i : Nat) (k : Value → Prop) : Prop :=
  match v with
  | .tuple vs => (match vs[i]? with | some x => k x | none => False)
  | _ => False
def lenT (v : Value) (k : Value → Prop) : Prop :=
  match v with
  | .slice _ n _ => k (.int .i64 n)
  | _ => False
def pickT (c a b : Value) (k : Value → Prop) : Prop :=
  match c with
  | .bool c => k (if c then a else b)
  | _ => False
def binI (op : BinOp) (x : IntKind) (a b : Int) : Option Value :=
  match op with
  | .add => some (.int x (x.wrap (a + b)))
  | .sub => some (.int x (x.wrap (a - b)))
  | .mul => some (.int x (x.wrap (a * b)))
  | .eql => some (.bool (a == b))
  | .neq => some (.bool (a != b))
  | .lss => some (.bool (a < b))
  | .leq => some (.bool (a ≤ b))
  | .gtr => some (.bool (a > b))
  | .geq => some (.bool (a ≥ b))
  | .quo => if b = 0 then none else some (.int x (x.wrap (a.tdiv b)))
  | .rem => if b = 0 then none else some (.int x (a.tmod b))
  | .xor => some (.int x (bits .xor x a b))
  | _ => none
def binT (op : BinOp) (u v : Value) (k : Value → Prop) : Prop :=
  match u, v with
  | .int x a, .int y b => x = y ∧ (match binI op x a b with | some r => k r | none => False)
  | _, _ => False
def notT (v : Value) (k : Value → Prop) : Prop :=
  match v with
  | .bool b => k (.bool (!b))
  | _ => False
def cviT (x : IntKind) (v : Value) (k : Value → Prop) : Prop :=
  match v with
  | .int _ n => k (.int x (x.wrap n))
  | _ => False
def opT (P : Program) (s : Sem Value) (w : World) (k : VW) : Prop :=
  match s.run P w with
  | .ok v w' => k v w'
  | .halt _ _ => False
def opU (P : Program) (s : Sem Unit) (w : World) (k : World → Prop) : Prop :=
  match s.run P w with
  | .ok _ w' => k w'
  | .halt _ _ => False
def clT (P : Program) (f : FuncId) (args : List Value) (w : World) (k : VW) : Prop :=
  Calls P f args.toArray w fun e w' => ∃ v, e = .returned v ∧ k v w'
def condT (c : Value) (A B : Prop) : Prop :=
  match c with
  | .bool true => A
  | .bool false => B
  | _ => False
def spT (v : Value) (k : Value → Prop) : Prop := condT v (k (.bool true)) (k (.bool false))
def gdT (v : Value) (want : Bool) (A B : Prop) : Prop :=
  match v with
  | .bool b => bif b == want then A else B
  | _ => B
structure Ti where
  known : Bool := false
  agg : Bool := false
  size : Nat := 0
  isInt : Bool := false
  intK : Option IntKind := none
  slice : Option Nat := none
  iface : Bool := true
  zero : Option (Array Value) := none
  fields : Option (List (Nat × Nat)) := none
  places : List (Option (Nat × Nat × Bool)) := []
def isAggD : TypeDesc → Bool
  | .struct _ | .array _ _ => true
  | _ => false
def isAggB (P : Program) (t : TypeId) : Bool :=
  match P.underlying t with
  | some d => isAggD d
  | _ => false
def sizeB (P : Program) (t : TypeId) : Nat := match P.info? t with | some i => i.size | none => 0
def tiOf (P : Program) (t : TypeId) : Ti :=
  match P.underlying t with
  | none => {}
  | some d =>
    { known := true, agg := isAggD d, size := sizeB P t,
      isInt := (match d with | .int _ => true | _ => false), intK := (match d with | .int k => some k | _ => none),
      slice := (match d with | .slice e => some e | _ => none), iface := (match d with | .interface _ => true | _ => false),
      zero := (match P.info? t with | some i => i.zero.map Value.cells | none => none),
      fields := (match d with | .struct fs => (bif fs.toList.all (fun f => (P.info? f.type).isSome) then some (fs.toList.map fun f => (f.offset, sizeB P f.type)) else none) | _ => none),
      places := (match d with | .struct fs => fs.toList.map (fun f => bif (P.underlying f.type).isSome then some (f.offset, sizeB P f.type, isAggB P f.type) else none) | _ => []) }
structure Ctx where
  ti : Nat → Ti
  fok : Nat → Bool
structure CtxOk (P : Program) (Γ : Ctx) : Prop where
  ti : ∀ t, Γ.ti t = {} ∨ Γ.ti t = tiOf P t
  fn : ∀ f, Γ.fok f = true → ∀ args w, (callFunc f args).run P w = .ok (.enter f args) w
  mixed : P.follows .mixedOrders = true
def partsB (place : Nat → Option (Nat × Nat)) (e : Env) : List (Nat × Operand) → Option (List (Nat × Nat × Value))
  | [] => some []
  | (i, x) :: rest =>
    match place i, partsB place e rest with
    | some (o, s), some r => some ((o, s, ev e x) :: r)
    | _, _ => none
def ivT (P : Program) (v : Value) (name : String) (args : List Value) (w : World) (k : VW) : Prop :=
  match (callMethod v name args.toArray).run P w with
  | .ok (.enter f as) w' => clT P f as.toList w' k
  | _ => False
def clvT (P : Program) (Γ : Ctx) (v : Value) (args : List Value) (w : World) (k : VW) : Prop :=
  match v with
  | .func (.func f) first captured => Γ.fok f = true ∧ clT P f (first.toList ++ args ++ captured.toList) w k
  | .func (.method name) first _ =>
    (match first.toList ++ args with
    | r :: as => ivT P r name as w k
    | [] => False)
  | _ => False
def callT (P : Program) (Γ : Ctx) (o : Oper) (c : Call) (e : Env) (w : World) (k : VW) : Prop :=
  match c.callee with
  | .value (.func f) => bif Γ.fok f then clT P f (c.args.toList.map (ev e)) w k else False
  | .value x => clvT P Γ (ev e x) (c.args.toList.map (ev e)) w k
  | .builtin .len =>
    match c.argTypes.toList, c.args.toList with
    | [t], [x] => (match (Γ.ti t).slice with | some _ => lenT (ev e x) (fun v => k v w) | none => opT P (Builtin.len_ c.argTypes o.type (c.args.toList.map (ev e)).toArray) w k)
    | _, _ => False
  | .builtin .append => opT P (Builtin.append_ c.argTypes o.type (c.args.toList.map (ev e)).toArray) w k
  | .builtin .cap => opT P (Builtin.cap_ c.argTypes o.type (c.args.toList.map (ev e)).toArray) w k
  | .builtin .clear => opT P (Builtin.clear_ c.argTypes o.type (c.args.toList.map (ev e)).toArray) w k
  | .builtin .copy => opT P (Builtin.copy_ c.argTypes o.type (c.args.toList.map (ev e)).toArray) w k
  | .builtin .max => opT P (Builtin.max_ c.argTypes o.type (c.args.toList.map (ev e)).toArray) w k
  | .builtin .min => opT P (Builtin.min_ c.argTypes o.type (c.args.toList.map (ev e)).toArray) w k
  | .invoke r name => ivT P (ev e r) name (c.args.toList.map (ev e)) w k
  | _ => False
def trOp (P : Program) (Γ : Ctx) (o : Oper) (e : Env) (w : World) (k : VW) : Prop :=
  match o.op with
  | .move x | .assign x => k (ev e x) w
  | .pick c a b => pickT (ev e c) (ev e a) (ev e b) (fun v => k v w)
  | .alloc t => match (Γ.ti t).zero with | some z => allocT t z w k | none => False
  | .box t x => boxT t (ev e x) w k
  | .build t parts =>
    match (Γ.ti t).zero, (Γ.ti t).fields with
    | some z, some fs => (match partsB (fs[·]?) e parts.toList with | some ps => bldT z ps (fun v => k v w) | none => False)
    | _, _ => False
  | .buildSlice t n parts =>
    match (Γ.ti t).slice with
    | some el =>
      bif Nat.ble (n * (Γ.ti el).size) 16777216 && (Γ.ti el).known then
        (match (bif Nat.beq (n * (Γ.ti el).size) 0 then some #[] else (Γ.ti el).zero), partsB (fun i => some (i * (Γ.ti el).size, (Γ.ti el).size)) e parts.toList with
        | some z, some ps => bslT el n (Γ.ti el).size z ps w k
        | _, _ => False)
      else False
    | none => False
  | .load t a => bif (Γ.ti t).known then (bif (Γ.ti t).agg then ldsT (Γ.ti t).size (ev e a) w (fun v => k v w) else ldT (ev e a) w (fun v => k v w)) else False
  | .store t a x => bif (Γ.ti t).known then (bif (Γ.ti t).agg then stsT (Γ.ti t).size (ev e a) (ev e x) w (k undef) else (bif Nat.beq (Γ.ti t).size 1 then stT (ev e a) (ev e x) w (k undef) else False)) else False
  | .nilCheck x => nilT P (ev e x) (fun v => k v w)
  | .binOp op t x y _ => bif (Γ.ti t).isInt then binT op (ev e x) (ev e y) (fun v => k v w) else opT P (do eqGuard op t x y (ev e x) (ev e y); binOp op t (ev e x) (ev e y)) w k
  | .unOp op _ x => match op with | .not => notT (ev e x) (fun v => k v w) | _ => opT P (Op.unary op (ev e x)) w k
  | .convert src dst x =>
    match (Γ.ti src).intK, (Γ.ti dst).intK with
    | some _, some y => cviT y (ev e x) (fun v => k v w)
    | _, _ => opT P (convert src dst (ev e x)) w k
  | .makeInterface t x => bif (Γ.ti t).known && !(Γ.ti t).iface then k (.iface t (ev e x)) w else False
  | .makeFunc fn first captured => k (.func fn (first.toList.map (ev e)).toArray (captured.toList.map (ev e)).toArray) w
  | .makeMap t r => opT P (Instr.makeMap t (r.map (ev e))) w k
  | .makeSlice t l c => opT P (Instr.makeSlice t (ev e l) (ev e c)) w k
  | .slice t x lo hi mx => opT P (Instr.sliceAt t (ev e x) (lo.map (ev e)) (hi.map (ev e)) (mx.map (ev e))) w k
  | .fieldAddr s x f => match (Γ.ti s).places[f]? with | some (some (off, size, _)) => bif Nat.beq size 0 then False else fadT off (ev e x) (fun v => k v w) | _ => False
  | .field t x f => match (Γ.ti t).places[f]? with | some (some (off, size, agg)) => fldT agg off size (ev e x) (fun v => k v w) | _ => False
  | .indexAddr t x i =>
    match (Γ.ti t).slice with
    | some el => bif (Γ.ti el).known then ixaT (Γ.ti el).size (ev e x) (ev e i) (fun v => k v w) else False
    | none => opT P (Instr.indexAt t (ev e x) (ev e i)) w k
  | .index t x i => opT P (Instr.index t (ev e x) (ev e i)) w k
  | .lookup t x i ok => opT P (Instr.lookup t (ev e x) (ev e i) ok) w k
  | .mapUpdate t m x v => opU P (Instr.mapUpdate t (ev e m) (ev e x) (ev e v)) w (k undef)
  | .extract t i => extT (ev e t) i (fun v => k v w)
  | .call c => callT P Γ o c e w k
  | _ => False
def guardSrc (ops : List Oper) (i : Nat) : Bool :=
  match ops with
  | [] => false
  | o :: os => (match o.guard with | some (j, _) => Nat.beq j i | none => false) || guardSrc os i
def trSp (P : Program) (Γ : Ctx) (ops : List Oper) (i : Nat) (o : Oper) (e : Env) (w : World) (k : VW) : Prop :=
  bif guardSrc ops i then trOp P Γ o e w (fun v w' => spT v fun v' => k v' w') else trOp P Γ o e w k
def trOne (P : Program) (Γ : Ctx) (ops : List Oper) (i : Nat) (o : Oper) (e : Env) (w : World) (k : VW) (s : Prop) : Prop :=
  match o.guard with
  | none => trSp P Γ ops i o e w k
  | some (j, want) =>
    match (ops[j]?).bind (·.dst) with
    | some d => gdT (e d) want (trSp P Γ ops i o e w k) s
    | none => s
def trSeq (P : Program) (Γ : Ctx) (ops : List Oper) : Nat → List Oper → Env → World → (Env → World → Prop) → Prop
  | _, [], e, w, k => k e w
  | i, o :: os, e, w, k => trOne P Γ ops i o e w (fun v w' => trSeq P Γ ops (i + 1) os (putE e o.dst v) w' k) (trSeq P Γ ops (i + 1) os (putE e o.dst undef) w k)
structure DH where
  T : List Nat := []
  F : List Nat := []
def maskOf (o : Oper) (T : List Nat) : Nat :=
  o.after.toList.foldl (fun s e => bif Region.binds .any e then Nat.lor (Nat.lor s (Nat.shiftLeft 1 e.on)) (T.getD e.on 0) else s) 0
def okT (T : List Nat) : Nat → List Oper → Bool
  | _, [] => true
  | i, o :: os => Nat.beq (T.getD i 0) (maskOf o T) && Nat.blt (T.getD i 0) (Nat.shiftLeft 1 i) && okT T (i + 1) os
def writers : Nat → List Oper → List (Nat × Nat)
  | _, [] => []
  | i, o :: os => match o.dst with | some d => (d, i) :: writers (i + 1) os | none => writers (i + 1) os
def distinctW : List (Nat × Nat) → Bool
  | [] => true
  | (d, _) :: r => r.all (fun p => !Nat.beq p.1 d) && distinctW r
def okW1 (T : List Nat) (W : List (Nat × Nat)) (i : Nat) (t : Nat) : Bool :=
  W.all fun p => !Nat.beq p.1 t || Nat.beq p.2 i || Nat.testBit (T.getD i 0) p.2 || Nat.testBit (T.getD p.2 0) i
def okW (ops : Array Oper) (T : List Nat) (W : List (Nat × Nat)) : Nat → List Oper → Bool
  | _, [] => true
  | i, o :: os => (o.looksAt ops).all (okW1 T W i) && okW ops T W (i + 1) os
def freeOf (Γ : Ctx) (ops : List Oper) (T : List Nat) (j : Nat) : Option (Nat × Nat × Nat × Array Value) :=
  match ops[j]? with
  | some o =>
    match o.op, o.dst, o.guard with
    | .alloc t, some d, none => bif Nat.beq (T.getD j 0) 0 && !guardSrc ops j then (match (Γ.ti t).zero with | some z => some (j, d, t, z) | none => none) else none
    | _, _, _ => none
  | none => none
def freesOf (Γ : Ctx) (ops : List Oper) (T : List Nat) : List Nat → Option (List (Nat × Nat × Nat × Array Value))
  | [] => some []
  | j :: js => match freeOf Γ ops T j, freesOf Γ ops T js with | some x, some xs => some (x :: xs) | _, _ => none
def isEager (Γ : Ctx) (o : Oper) : Bool :=
  match o.op with
  | .move _ | .assign _ | .pick .. | .build .. | .nilCheck _ | .makeInterface .. | .makeFunc .. | .fieldAddr .. | .field .. | .extract .. | .load .. => true
  | .binOp _ t .. => (Γ.ti t).isInt
  | .unOp .not .. => true
  | .convert src dst _ => (Γ.ti src).intK.isSome && (Γ.ti dst).intK.isSome
  | .indexAddr t .. => (Γ.ti t).slice.isSome
  | .call { callee := .builtin .len, argTypes, .. } => match argTypes.toList with | [t] => (Γ.ti t).slice.isSome | _ => false
  | _ => false
structure Pend where
  i : Nat
  t : Nat
  a : Value
  v : Value
def ldqT (Γ : Ctx) (p : Pend) (w : World) : Prop :=
  bif (Γ.ti p.t).agg then ldsT (Γ.ti p.t).size p.a w (fun u => u = p.v) else ldT p.a w (fun u => u = p.v)
def pendOf (o : Oper) (i : Nat) (e : Env) (v : Value) (pd : List Pend) : List Pend :=
  match o.op with
  | .load t x => ⟨i, t, ev e x, v⟩ :: pd
  | _ => pd
def stabT (Γ : Ctx) (m : Nat) (w : World) : List Pend → Prop → Prop
  | [], k => k
  | p :: ps, k => bif Nat.testBit m p.i then stabT Γ m w ps k else (ldqT Γ p w ∧ stabT Γ m w ps k)
inductive AR (zs : List (Nat × Array Value)) : World → List (Option Nat) → World → List (Option Nat) → Prop where
  | refl (w : World) (s : List (Option Nat)) : AR zs w s w s
  | step {w : World} {s : List (Option Nat)} {w' : World} {s' : List (Option Nat)} (i t : Nat) (z : Array Value) (hz : zs[i]? = some (t, z)) (hs : s[i]? = some none)
      (h : AR zs (w.alloc (.cells z t)) (s.set i (some w.heap.size)) w' s') : AR zs w s w' s'
def arT (zs : List (Nat × Array Value)) (w : World) (s : List (Option Nat)) (k : World → List (Option Nat) → Prop) : Prop :=
  match zs with
  | [] => k w s
  | _ => ∀ w' s', AR zs w s w' s' → k w' s'
def ndT (s : List (Option Nat)) (i : Nat) (k : Nat → Prop) : Prop := ∀ b, s[i]? = some (some b) → k b
def needs (fs : List (Nat × Nat × Nat × Array Value)) (m : Nat) (s : List (Option Nat)) : Nat → List (Nat × Nat × Nat × Array Value) → Env → (Env → Prop) → Prop
  | _, [], e, k => k e
  | n, (j, d, _, _) :: r, e, k => bif Nat.testBit m j then ndT s n fun b => needs fs m s (n + 1) r (upd e d (.pointer (some ⟨b, 0, none⟩))) k else needs fs m s (n + 1) r e k
def conjL : List Prop → Prop
  | [] => True
  | [p] => p
  | p :: q :: r => p ∧ conjL (q :: r)
def readyAt (T : List Nat) (D Fm i : Nat) : Bool := !Nat.testBit D i && !Nat.testBit Fm i && Nat.beq (Nat.land (T.getD i 0) (Nat.lor D Fm)) (T.getD i 0)
def eagerAt (Γ : Ctx) (T : List Nat) (D Fm i : Nat) (o : Oper) : Bool := isEager Γ o && readyAt T D Fm i && Nat.beq (Nat.land (T.getD i 0) Fm) 0
def nextEager (Γ : Ctx) (T : List Nat) (D Fm : Nat) : Nat → List Oper → Option (Nat × Oper)
  | _, [] => none
  | i, o :: os => bif eagerAt Γ T D Fm i o then some (i, o) else nextEager Γ T D Fm (i + 1) os
def choices (T : List Nat) (D Fm : Nat) : Nat → List Oper → List (Nat × Oper)
  | _, [] => []
  | i, o :: os => bif readyAt T D Fm i then (i, o) :: choices T D Fm (i + 1) os else choices T D Fm (i + 1) os
def trDraw (P : Program) (Γ : Ctx) (ops : List Oper) (T : List Nat) (fs : List (Nat × Nat × Nat × Array Value)) (Fm : Nat) :
    Nat → Nat → List Pend → Env → World → List (Option Nat) → (Env → World → Prop) → Prop
  | 0, _, _, _, _, _, _ => False
  | n + 1, D, pd, e, w, s, k =>
    match nextEager Γ T D Fm 0 ops with
    | some (i, o) => trOne P Γ ops i o e w (fun v w' => trDraw P Γ ops T fs Fm n (Nat.lor D (Nat.shiftLeft 1 i)) (pendOf o i e v pd) (putE e o.dst v) w' s k)
        (trDraw P Γ ops T fs Fm n (Nat.lor D (Nat.shiftLeft 1 i)) pd (putE e o.dst undef) w s k)
    | none =>
      arT (fs.map fun f => (f.2.2.1, f.2.2.2)) w s fun w s =>
      match choices T D Fm 0 ops with
      | [] => bif Nat.beq (Nat.lor D Fm) (Nat.shiftLeft 1 ops.length - 1) then needs fs Fm s 0 fs e (fun e => k e w) else False
      | cs => conjL (cs.map fun c => needs fs (T.getD c.1 0) s 0 fs e fun e =>
          trOne P Γ ops c.1 c.2 e w (fun v w' => stabT Γ (T.getD c.1 0) w' pd (trDraw P Γ ops T fs Fm n (Nat.lor D (Nat.shiftLeft 1 c.1)) pd (putE e c.2.dst v) w' s k))
            (trDraw P Γ ops T fs Fm n (Nat.lor D (Nat.shiftLeft 1 c.1)) pd (putE e c.2.dst undef) w s k))
def maskL : List Nat → Nat
  | [] => 0
  | j :: js => Nat.lor (Nat.shiftLeft 1 j) (maskL js)
def okDraw (ops : Array Oper) (dh : DH) : Bool :=
  okT dh.T 0 ops.toList && distinctW (writers 0 ops.toList) && okW ops dh.T (writers 0 ops.toList) 0 ops.toList && decide dh.F.Nodup
def trDrawn (P : Program) (Γ : Ctx) (ops : Array Oper) (dh : DH) (e : Env) (w : World) (k : Env → World → Prop) : Prop :=
  bif okDraw ops dh then
    (match freesOf Γ ops.toList dh.T dh.F with
    | some fs => trDraw P Γ ops.toList dh.T fs (maskL dh.F) (ops.size + 1) 0 [] e w.drew (fs.map fun _ => none) k
    | none => False)
  else False
structure Hints where
  draw : Nat → DH := fun _ => {}
  loop : Nat → Option (Nat × List Nat) := fun _ => none
  join : Nat → Option (List Nat) := fun _ => none
  blk : Nat → Option (List Nat) := fun _ => none
def firstReg : Code → Nat
  | .region id _ _ => id
  | .seq a _ => firstReg a
  | .cond _ a _ => firstReg a
  | .block _ a => firstReg a
  | .loop a => firstReg a
  | .scope a => firstReg a
  | _ => 0
def condKey : Operand → Nat
  | .tmp t => t
  | _ => 0
def iterT (B : List Value → World → LW → LW → LW → Prop) (Kb Kr : LW) : Nat → LW
  | 0, _, _ => False
  | n + 1, s, w => B s w (iterT B Kb Kr n) Kb Kr
def loopT (B : List Value → World → LW → LW → LW → Prop) (s : List Value) (w : World) (Kb Kr : LW) : Prop := ∃ n, iterT B Kb Kr n s w
abbrev XW := Exit → Env → World → Prop
def trC (P : Program) (Γ : Ctx) (H : Hints) : Code → Env → World → XW → Prop
  | .skip, e, w, K => K .normal e w
  | .region _ ops false, e, w, K => trSeq P Γ ops.toList 0 ops.toList e w (K .normal)
  | .region id ops true, e, w, K => trDrawn P Γ ops (H.draw id) e w (K .normal)
  | .seq a b, e, w, K => trC P Γ H a e w fun x e' w' => match x with | .normal => trC P Γ H b e' w' K | y => K y e' w'
  | .cond c a b, e, w, K =>
    match H.join (condKey c) with
    | none => condT (ev e c) (trC P Γ H a e w K) (trC P Γ H b e w K)
    | some J =>
      condT (ev e c) (trC P Γ H a e w fun x e' w' => match x with | .normal => ∀ junk, K .normal (mix J (J.map e') junk) w' | y => K y e' w')
        (trC P Γ H b e w fun x e' w' => match x with | .normal => ∀ junk, K .normal (mix J (J.map e') junk) w' | y => K y e' w')
  | .block b a, e, w, K =>
    match H.blk b with
    | none => trC P Γ H a e w fun x e' w' => match x with | .exit i => bif Nat.beq i b then K .normal e' w' else K (.exit i) e' w' | y => K y e' w'
    | some J => trC P Γ H a e w fun x e' w' => match x with | .normal => ∀ junk, K .normal (mix J (J.map e') junk) w' | .exit i => bif Nat.beq i b then ∀ junk, K .normal (mix J (J.map e') junk) w' else K (.exit i) e' w' | y => K y e' w'
  | .loop a, e, w, K =>
    match H.loop (firstReg a) with
    | none => False
    | some (bid, keep) =>
      loopT (fun s w Kn Kb Kr => ∀ junk, trC P Γ H a (mix keep s junk) w fun x e' w' =>
          match x with
          | .normal => Kn (keep.map e') w'
          | .exit i => bif Nat.beq i bid then Kb (keep.map e') w' else False
          | .ret => Kr (keep.map e') w'
          | _ => False)
        (keep.map e) w (fun s w' => ∀ junk, K (.exit bid) (mix keep s junk) w') (fun s w' => ∀ junk, K .ret (mix keep s junk) w')
  | .exit i, e, w, K => K (.exit i) e w
  | .ret, e, w, K => K .ret e w
  | _, _, _, _ => False
def resT1 (Γ : Ctx) (r : ResultVar) (e : Env) (w : World) (k : Value → Prop) : Prop :=
  match r with
  | .tmp t => k (e t)
  | .cell a t => bif (Γ.ti t).known then (bif (Γ.ti t).agg then ldsT (Γ.ti t).size (e a) w k else ldT (e a) w k) else False
def resTs (Γ : Ctx) : List ResultVar → Env → World → (List Value → Prop) → Prop
  | [], _, _, k => k []
  | r :: rs, e, w, k => resT1 Γ r e w fun v => resTs Γ rs e w fun vs => k (v :: vs)
def one (vs : List Value) : Value :=
  match vs with
  | [v] => v
  | vs => .tuple vs.toArray
def argE (args : List Value) : Env := fun j => args.getD j undef
def trF (P : Program) (Γ : Ctx) (H : Hints) (fn : Func) (args : List Value) (w : World) (R : VW) : Prop :=
  match fn.body with
  | some c => trC P Γ H c (argE args) w fun x e w' =>
    match x with
    | .normal | .ret => resTs Γ fn.results.toList e w' fun vs => R (one vs) w'
    | _ => False
  | none => False
end Go.PT
