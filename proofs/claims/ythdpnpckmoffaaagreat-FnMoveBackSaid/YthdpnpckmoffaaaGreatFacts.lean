/- Closed facts of the program that all rows share: each by itself, for together they outgrow the memory. -/
import Derived.Test.YthdpnpckmoffaaaGreatRows
import Derived.WalkKit
import Derived.ProofKit
import Derived.SizedLaws
namespace Go.Proofs.YthdpnpckmoffaaaGreat
set_option linter.unusedVariables false
set_option linter.unusedSimpArgs false
/-! ### what a program's head says -/
theorem e_strip (r : List (List Char)) : stripLifts liftWords ("cut".toList :: r) = ([], "cut".toList :: r) := by kernel_rfl
theorem e_cut (r : List (List Char)) : (("cut".toList :: r).head? == some "cut".toList) = true := by kernel_rfl
theorem enter_of {P : Program} {r : List (List Char)} (h : behindMainWord (wordsSigns P.initOrder.toList) = "cut".toList :: r) (h1 : P.laysLater = false) (h2 : P.bearsReflect = false) (h3 : P.doorRows = []) : P.mayEnter = true := by
  unfold Program.mayEnter
  rw [h]
  simp only [e_strip, h1, h2, Program.doorFits, h3, e_cut]
  rfl
theorem lifts_of {P : Program} {r : List (List Char)} (h : behindMainWord (wordsSigns P.initOrder.toList) = "cut".toList :: r) : P.headLifts = [] := by
  unfold Program.headLifts
  rw [h]
  simp only [e_strip, e_cut, if_true]
theorem final_of {P : Program} {r : List (List Char)} (h : behindMainWord (wordsSigns P.initOrder.toList) = "cut".toList :: r) : P.liftsFinal = false := by
  unfold Program.liftsFinal
  rw [h, lifts_of h]
  rfl
theorem make_of {P : Program} {r : List (List Char)} (h : behindMainWord (wordsSigns P.initOrder.toList) = "cut".toList :: r) : P.make = some .cut := by
  unfold Program.make
  rw [h]
  rfl
theorem e_init : Tryz.prog.initOrder = Tryz.progTables.initOrder := by kernel_rfl
set_option maxRecDepth 1000000 in
theorem e_chars : ∃ l, Tryz.progTables.initOrder.toList = l ∧ (behindMainWord (wordsSigns l)).head? = some "cut".toList := ⟨_, String.toList_ofList, by kernel_rfl⟩
theorem e_words : ∃ r, behindMainWord (wordsSigns Tryz.prog.initOrder.toList) = "cut".toList :: r := by
  obtain ⟨l, h1, h2⟩ := e_chars
  rw [e_init, h1]
  exact List.head?_eq_some_iff.mp h2
theorem e_late : Tryz.prog.laysLater = false := by kernel_rfl
theorem e_refl : Tryz.prog.bearsReflect = false := by kernel_rfl
theorem e_door : Tryz.prog.doorRows = [] := by kernel_rfl
theorem s_enter : Tryz.prog.mayEnter = true := by obtain ⟨r, hr⟩ := e_words; exact enter_of hr e_late e_refl e_door
theorem s_final : Tryz.prog.liftsFinal = false := by obtain ⟨r, hr⟩ := e_words; exact final_of hr
theorem s_make : Tryz.prog.make = some .cut := by obtain ⟨r, hr⟩ := e_words; exact make_of hr
theorem s_laid : laidOutB Tryz.prog = true := by kernel_rfl
theorem s_maps : mapsRowed Tryz.prog = true := by kernel_rfl
theorem s_stops : (Tryz.prog.stops == []) = true := by kernel_rfl
theorem s_knobs : (Tryz.prog.stopKnobs == []) = true := by kernel_rfl
theorem s_plain : (false == Tryz.prog.plainKeys) = true := by kernel_rfl
theorem s_heard : Tryz.prog.stopsHeard = true := by kernel_rfl
end Go.Proofs.YthdpnpckmoffaaaGreat
