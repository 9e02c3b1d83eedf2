/- Moved in, and out, a heap is without what cannot be come to. For all codes, whatever their length. -/
import Derived.Test.YthdpnpckmoffaaaGreatRows
import Derived.Test.YthdpnpckmoffaaaGreatMoveBack00
import Derived.Test.YthdpnpckmoffaaaGreatMoveBack01
import Derived.Test.YthdpnpckmoffaaaGreatMoveBack02
import Derived.Test.YthdpnpckmoffaaaGreatMoveBack03
import Derived.Test.YthdpnpckmoffaaaGreatMoveBack04
import Derived.Test.YthdpnpckmoffaaaGreatMoveBack05
import Derived.Test.YthdpnpckmoffaaaGreatMoveBack06
import Derived.Test.YthdpnpckmoffaaaGreatMoveBack07
import Derived.Test.YthdpnpckmoffaaaGreatMoveBack08
import Derived.Test.YthdpnpckmoffaaaGreatMoveBack09
import Derived.Test.YthdpnpckmoffaaaGreatMoveBack10
import Derived.Test.YthdpnpckmoffaaaGreatMoveBack11
import Derived.Test.YthdpnpckmoffaaaGreatMoveBack12
import Derived.Test.YthdpnpckmoffaaaGreatMoveBack13
import Derived.Test.YthdpnpckmoffaaaGreatMoveBack14
import Derived.Test.YthdpnpckmoffaaaGreatMoveBack15
import Derived.WalkKit
import Derived.ProofKit
import Derived.OpenShut
import Derived.ShutString
import Derived.ChangeOld
import Derived.Below
import Derived.SizedLaws
import Derived.Test.YthdpnpckmoffaaaGreatFacts
namespace Go.Proofs.YthdpnpckmoffaaaGreat.fnMoveBack
open Go.ChangeShapes Go.WideShapes Go.ChangeAt Go.RowKit
open Go.ChangeMaps (open_string shut_string)
set_option linter.unusedVariables false
theorem k1 : OpenClaim.wf (OpenSpec.ofChange Rows.fnMoveBackSpec) Rows.fnMoveBackRow = true := by kernel_rfl
theorem k4 : (Tryz.f6.params.all fun x => Tryz.prog.readableRec x) = true := by kernel_rfl
theorem k5 : namedTie Tryz.prog Rows.fnMoveBackRow.named Rows.fnMoveBackSpec.vars = true := by kernel_rfl
theorem k6 : (Rows.fnMoveBackRow.stops == []) = true := by kernel_rfl
theorem k8 : (Rows.fnMoveBackRow.knobs == []) = true := by kernel_rfl
theorem k10 : (Rows.fnMoveBackRow.inPlace == Tryz.prog.inPlace 6) = true := by kernel_rfl
theorem k11 : (Rows.fnMoveBackRow.unfollowed == Tryz.prog.unfollowed 6) = true := by kernel_rfl
theorem k12 : (Rows.fnMoveBackRow.recurses == Tryz.prog.recurses 6) = true := by kernel_rfl
theorem k13 : (Rows.fnMoveBackRow.named == Tryz.prog.varsNamed 6) = true := by kernel_rfl
theorem k14 : (Rows.fnMoveBackRow.maps == (Tryz.f6.params.toList ++ DataSpec.varTypes Tryz.prog Rows.fnMoveBackSpec.plain).any fun x => Tryz.prog.mapsRec x) = true := by kernel_rfl
theorem k15 : (Rows.fnMoveBackRow.ifaces == (Tryz.f6.params.toList ++ DataSpec.varTypes Tryz.prog Rows.fnMoveBackSpec.plain).any fun x => Tryz.prog.ifacesRec x) = true := by kernel_rfl
theorem k16 : (Rows.fnMoveBackRow.mapsOut == Tryz.prog.mapsAmong Tryz.f6.resultTypes.toList) = true := by kernel_rfl
theorem k17 : (Rows.fnMoveBackRow.loops == (Tryz.f6.params.toList ++ DataSpec.varTypes Tryz.prog Rows.fnMoveBackSpec.plain).any fun x => Tryz.prog.loopsFrom x) = true := by kernel_rfl
theorem k18 : (Rows.fnMoveBackRow.wideKeys == (Tryz.f6.params.toList ++ DataSpec.varTypes Tryz.prog Rows.fnMoveBackSpec.plain ++ Tryz.f6.resultTypes.toList).any fun x => Tryz.prog.wideKeysFrom x) = true := by kernel_rfl
theorem k19 : (Rows.fnMoveBackSpec.vars.all fun x => Tryz.prog.varReadable x) = true := by kernel_rfl
theorem k20 : (Tryz.f6.resultTypes.all fun t => Tryz.prog.readableRec t && decide (t < Tryz.prog.types.size)) = true := by kernel_rfl
theorem k21 : (Rows.fnMoveBackRow.ifacesOut == Tryz.f6.resultTypes.toList.any fun x => Tryz.prog.ifacesRec x) = true := by kernel_rfl
theorem k22 : (Rows.fnMoveBackRow.loopsOut == Tryz.f6.resultTypes.toList.any fun x => Tryz.prog.loopsFrom x) = true := by kernel_rfl
theorem k24 : Rows.fnMoveBackRow.shortTexts.isNone = true := by kernel_rfl
theorem k30 : (Rows.fnMoveBackRow.pinned == Rows.fnMoveBackRow.pinnedBy) = true := by kernel_rfl
theorem k31 : (Rows.fnMoveBackRow.veiled == (Tryz.f6.params.toList ++ DataSpec.varTypes Tryz.prog Rows.fnMoveBackSpec.plain ++ Tryz.f6.resultTypes.toList).any fun x => Tryz.prog.veiledRec x) = true := by kernel_rfl
theorem k32 : Rows.fnMoveBackRow.veiledFits Tryz.prog Tryz.f6.params.toList (Tryz.f6.params.toList ++ DataSpec.varTypes Tryz.prog Rows.fnMoveBackSpec.plain ++ Tryz.f6.resultTypes.toList) = true := by kernel_rfl
theorem closed : joinedFacts Tryz.prog 6 Tryz.f6 Rows.fnMoveBackSpec Rows.fnMoveBackRow = true := by
  unfold joinedFacts
  simp only [Bool.and_eq_true]
  exact ⟨⟨⟨⟨⟨⟨⟨⟨⟨⟨⟨⟨⟨⟨⟨⟨⟨⟨⟨⟨⟨⟨⟨⟨⟨⟨⟨⟨⟨⟨⟨k1, s_laid⟩, s_maps⟩, k4⟩, k5⟩, k6⟩, s_stops⟩, k8⟩, s_knobs⟩, k10⟩, k11⟩, k12⟩, k13⟩, k14⟩, k15⟩, k16⟩, k17⟩, k18⟩, k19⟩, k20⟩, k21⟩, k22⟩, s_plain⟩, k24⟩, s_heard⟩, s_enter⟩, (by rw [s_final]; rfl)⟩, (by rw [s_make]; rfl)⟩, (by kernel_rfl)⟩, k30⟩, k31⟩, k32⟩
theorem own : ownKnob Tryz.prog.godebug = none := by kernel_rfl
theorem laidOut : laidOutB Tryz.prog = true := s_laid
theorem found : Tryz.prog.funcNamed "loop.example/gemel/laws.FnMoveBack" = some 6 := by kernel_rfl
set_option maxRecDepth 100000 in
theorem lifted (os : Os) (started : os.Started) (H : Type) (enc : TypeId × Value → H) :
    ReturnsInHanded {} Tryz.checked os 6 .any (Rows.fnMoveBackSpec.pre6 enc Tryz.prog Tryz.f6 Rows.fnMoveBackRow.domain false) (Rows.fnMoveBackSpec.post enc Tryz.prog Tryz.f6 false true false false) := by
  refine returnsInHanded_of_change_sized (C := Tryz.checked) own started (by kernel_rfl) Tryz.func6
    (ChangeSpec.witness6 (enc := enc) (C := Tryz.checked) false ⟨#[], #[.slice none 0 0], []⟩ 8 (by kernel_rfl) (by kernel_rfl) (by kernel_rfl) (by kernel_rfl)) ?_
  intro W base args ds gs before hval0 hW hcnd hsz0 _
  have hsz : (DataW.weightsEach Tryz.prog (Tryz.f6.params.toList ++ Rows.fnMoveBackSpec.plain.varTypes Tryz.prog) (ds ++ gs)).all (· ≤ reachBytes) = true := hsz0
  have hval : ∀ (j : Nat) t v, Tryz.f6.params[j]? = some t → args[j]? = some v → Value.okWide Tryz.prog W .any base t v := hval0
  have hW' := hW
  obtain ⟨p, q, hA0, hV, rfl, hfz, hnd⟩ := hW
  have hA : DataW.TrodAll enc Tryz.prog W 0 (fun _ => true) true Tryz.f6.params.toList args.toList ds p := hA0
  rw [Tryz.params6] at hA hval hsz
  obtain ⟨v0, vs0, d0, ds0, p0, q0, hargs, rfl, rfl, h0, r0⟩ := trodAll_cons hA
  obtain ⟨rfl, rfl, rfl⟩ := trodAll_nil r0
  obtain rfl : args = #[v0] := by cases args; simp_all
  obtain ⟨rfl, rfl⟩ := trodVars_none hV
  obtain ⟨a0, len0, cap0, rfl⟩ := okWide_slice Tryz.underlying62 (hval 0 62 v0 rfl rfl)
  have k0 := h0
  have lt0 : ∀ x ∈ p0, x.block < W.heap.size := by obtain ⟨m, hm⟩ := k0; exact DataW.trod_lt m _ _ _ hm
  obtain ⟨z0, w0⟩ : ∃ zs, PT.IsRow .u8 W a0 len0 cap0 zs := by
    obtain ⟨fuel, hf⟩ := h0
    rcases open_ints Tryz.underlying62 Tryz.underlying5 (by kernel_rfl) hf with ⟨hcs, _⟩ | ⟨x, l, c, zs, hcs, _, hl, hm, hz, _, hcell, hwz⟩
    · simp [Value.cells] at hcs
      obtain ⟨rfl, rfl, rfl⟩ := hcs
      exact ⟨[], .inl ⟨rfl, rfl, rfl, rfl⟩⟩
    · simp [Value.cells] at hcs
      obtain ⟨rfl, rfl, rfl⟩ := hcs
      exact ⟨zs, .inr ⟨_, rfl, hl, hm, by simpa using hz, hcell, hwz⟩⟩
  clear hA0 hval0 hsz0 hsz
  obtain ⟨code, hb0, hr0⟩ := PT.bt_of w0
  refine (PT.c_fnMoveBack (R := fun v w' => v = .bool true ∧ PT.Ext W w') hb0 hr0 (fun w' e => ⟨rfl, e⟩)).mono fun e W' ⟨v, he, hv, ext⟩ => ?_
  subst he hv
  have bel := PT.Fr.below ext
  exact ⟨_, rfl, _, _, _, [], _, [], hW', trodAll_mk1 (shut_bool Tryz.underlying4 _), (trodAll_cons_mk (Below.trod laidOut (by kernel_rfl) (of_decide_eq_true (by kernel_rfl)) k0 bel lt0) trodAll_mk0), rfl, bel.frame _, fun h => by cases h⟩
theorem over : Rows.fnMoveBackRow.holds Tryz.pinned (OpenSpec.ofChange Rows.fnMoveBackSpec) :=
  OpenClaim.holds_of_wide 6 Tryz.f6 rfl rfl rfl rfl rfl rfl rfl ⟨rfl, rfl, rfl, rfl, rfl⟩ rfl rfl rfl rfl rfl found Tryz.func6 closed
    (of_decide_eq_true (by kernel_rfl)) (by unfold Func.isWrapper; first | (rw [if_pos (by decide +kernel)]; kernel_rfl) | (rw [if_neg (by decide +kernel)]; exact ⟨rfl, rfl⟩))
    (fun os started H enc _ => lifted os started H enc)
theorem proved : Rows.FnMoveBackSaid := over
end Go.Proofs.YthdpnpckmoffaaaGreat.fnMoveBack
namespace Go.Proofs.YthdpnpckmoffaaaGreat
/-- The row, under a short name, for the claim. -/
theorem fnMoveBack_holds : Rows.FnMoveBackSaid := fnMoveBack.proved
end Go.Proofs.YthdpnpckmoffaaaGreat
