/-
  No cell of these rows narrows 'for every input' (looked for: loops, veiled, ifaces, maps, wideKeys, modest, calm, conditions, laid).
  DERIVED. THE GIVEN ROWS OF THIS SEAT. 15 by the template 'for every input the law returns true; each argument reads behind the call as it read before'; 0 by the template 'total and deterministic' (their statements: YthdpnpckmoffaaaGreatTotals.lean).
  GIVEN WITH THE SEED: the statements are not yours to turn. If you find one false, say at which input.
  Laid BY PROGRAM, IN A SANDBOX (cutbox-rows.mjs): the forced cells as the released guide's own fill.sh prints them over the translation 61f5787f6685ff86… (all of the seat's roots in one cut). By AI agents, Wed Nov 11 2026. No macro, syntax, notation, axiom, sorry.
-/
import Derived.Test.YthdpnpckmoffaaaGreatChecked
import GoSem.Claim
import GoSem.ClaimJoined
import GoSem.ClaimMapViews
import Derived.JoinedTies
import Derived.KernelRfl
namespace Go.Proofs.YthdpnpckmoffaaaGreat
/- THE CELL 'sum', in the pinned program and in every row, IS THE sha256 OF THE DUMP (.gsa) THAT YthdpnpckmoffaaaGreatProg.lean LOADS. Nothing in Lean hashes anything: it is a label: what it is worth is what the hold of that sum in a sandbox is worth. -/
noncomputable def Tryz.pinned : Pinned := { name := "ythdpnpckmoffaaagreat", sum := "61f5787f6685ff86d0e013247e58247dc0a921e726ac6185b098c8516d0c6c8b", checked := Tryz.checked }
namespace Rows
def none {H : Type} : Left H := { results := [], args := [] }

/-- 'laws.FnExactMoveTo': WHATEVER THE INPUT: true; the input reads as it did. -/
def fnExactMoveToSpec : ChangeSpec := { name := "fnExactMoveTo", fn := fun _ => fun
  | [d1, d2, d3, d4] => { results := [.lit (.bool true)], args := [d1, d2, d3, d4] }
  | _ => none }
def fnExactMoveToRow : OpenClaim := { program := "ythdpnpckmoffaaagreat", sum := "61f5787f6685ff86d0e013247e58247dc0a921e726ac6185b098c8516d0c6c8b", func := "loop.example/gemel/laws.FnExactMoveTo", spec := "fnExactMoveTo", unfollowed := true, recurses := true, plainKeys := false, apart := false }
def FnExactMoveToSaid : Prop := fnExactMoveToRow.holds Tryz.pinned (OpenSpec.ofChange fnExactMoveToSpec)

/-- ITS FALSE NEIGHBOUR: 'it returns false'. Refute it at one input. -/
def fnExactMoveToWrong : ChangeSpec := { name := "fnExactMoveTo", fn := fun _ => fun
  | [d1, d2, d3, d4] => { results := [.lit (.bool false)], args := [d1, d2, d3, d4] }
  | _ => none }
def FnExactMoveToWrongFalsely : Prop := fnExactMoveToRow.holds Tryz.pinned (OpenSpec.ofChange fnExactMoveToWrong)

/-- 'laws.FnExactMoveIn': WHATEVER THE INPUT: true; the input reads as it did. -/
def fnExactMoveInSpec : ChangeSpec := { name := "fnExactMoveIn", fn := fun _ => fun
  | [d1, d2, d3, d4] => { results := [.lit (.bool true)], args := [d1, d2, d3, d4] }
  | _ => none }
def fnExactMoveInRow : OpenClaim := { program := "ythdpnpckmoffaaagreat", sum := "61f5787f6685ff86d0e013247e58247dc0a921e726ac6185b098c8516d0c6c8b", func := "loop.example/gemel/laws.FnExactMoveIn", spec := "fnExactMoveIn", unfollowed := true, recurses := true, plainKeys := false, apart := false }
def FnExactMoveInSaid : Prop := fnExactMoveInRow.holds Tryz.pinned (OpenSpec.ofChange fnExactMoveInSpec)

/-- ITS FALSE NEIGHBOUR: 'it returns false'. Refute it at one input. -/
def fnExactMoveInWrong : ChangeSpec := { name := "fnExactMoveIn", fn := fun _ => fun
  | [d1, d2, d3, d4] => { results := [.lit (.bool false)], args := [d1, d2, d3, d4] }
  | _ => none }
def FnExactMoveInWrongFalsely : Prop := fnExactMoveInRow.holds Tryz.pinned (OpenSpec.ofChange fnExactMoveInWrong)

/-- 'laws.FnMoveIn': WHATEVER THE INPUT: true; the input reads as it did. -/
def fnMoveInSpec : ChangeSpec := { name := "fnMoveIn", fn := fun _ => fun
  | [d] => { results := [.lit (.bool true)], args := [d] }
  | _ => none }
def fnMoveInRow : OpenClaim := { program := "ythdpnpckmoffaaagreat", sum := "61f5787f6685ff86d0e013247e58247dc0a921e726ac6185b098c8516d0c6c8b", func := "loop.example/gemel/laws.FnMoveIn", spec := "fnMoveIn", unfollowed := true, recurses := true, plainKeys := false, apart := false }
def FnMoveInSaid : Prop := fnMoveInRow.holds Tryz.pinned (OpenSpec.ofChange fnMoveInSpec)

/-- ITS FALSE NEIGHBOUR: 'it returns false'. Refute it at one input. -/
def fnMoveInWrong : ChangeSpec := { name := "fnMoveIn", fn := fun _ => fun
  | [d] => { results := [.lit (.bool false)], args := [d] }
  | _ => none }
def FnMoveInWrongFalsely : Prop := fnMoveInRow.holds Tryz.pinned (OpenSpec.ofChange fnMoveInWrong)

/-- 'laws.FnMoveBack': WHATEVER THE INPUT: true; the input reads as it did. -/
def fnMoveBackSpec : ChangeSpec := { name := "fnMoveBack", fn := fun _ => fun
  | [d] => { results := [.lit (.bool true)], args := [d] }
  | _ => none }
def fnMoveBackRow : OpenClaim := { program := "ythdpnpckmoffaaagreat", sum := "61f5787f6685ff86d0e013247e58247dc0a921e726ac6185b098c8516d0c6c8b", func := "loop.example/gemel/laws.FnMoveBack", spec := "fnMoveBack", unfollowed := true, recurses := true, plainKeys := false, apart := false }
def FnMoveBackSaid : Prop := fnMoveBackRow.holds Tryz.pinned (OpenSpec.ofChange fnMoveBackSpec)

/-- ITS FALSE NEIGHBOUR: 'it returns false'. Refute it at one input. -/
def fnMoveBackWrong : ChangeSpec := { name := "fnMoveBack", fn := fun _ => fun
  | [d] => { results := [.lit (.bool false)], args := [d] }
  | _ => none }
def FnMoveBackWrongFalsely : Prop := fnMoveBackRow.holds Tryz.pinned (OpenSpec.ofChange fnMoveBackWrong)

/-- 'laws.FnTwinEach': WHATEVER THE INPUT: true; the input reads as it did. -/
def fnTwinEachSpec : ChangeSpec := { name := "fnTwinEach", fn := fun _ => fun
  | [d] => { results := [.lit (.bool true)], args := [d] }
  | _ => none }
def fnTwinEachRow : OpenClaim := { program := "ythdpnpckmoffaaagreat", sum := "61f5787f6685ff86d0e013247e58247dc0a921e726ac6185b098c8516d0c6c8b", func := "loop.example/gemel/laws.FnTwinEach", spec := "fnTwinEach", unfollowed := true, recurses := true, plainKeys := false, apart := false }
def FnTwinEachSaid : Prop := fnTwinEachRow.holds Tryz.pinned (OpenSpec.ofChange fnTwinEachSpec)

/-- ITS FALSE NEIGHBOUR: 'it returns false'. Refute it at one input. -/
def fnTwinEachWrong : ChangeSpec := { name := "fnTwinEach", fn := fun _ => fun
  | [d] => { results := [.lit (.bool false)], args := [d] }
  | _ => none }
def FnTwinEachWrongFalsely : Prop := fnTwinEachRow.holds Tryz.pinned (OpenSpec.ofChange fnTwinEachWrong)

/-- 'laws.FnTwinFlush': WHATEVER THE INPUT: true; the input reads as it did. -/
def fnTwinFlushSpec : ChangeSpec := { name := "fnTwinFlush", fn := fun _ => fun
  | [d1, d2] => { results := [.lit (.bool true)], args := [d1, d2] }
  | _ => none }
def fnTwinFlushRow : OpenClaim := { program := "ythdpnpckmoffaaagreat", sum := "61f5787f6685ff86d0e013247e58247dc0a921e726ac6185b098c8516d0c6c8b", func := "loop.example/gemel/laws.FnTwinFlush", spec := "fnTwinFlush", unfollowed := true, recurses := true, plainKeys := false, apart := false }
def FnTwinFlushSaid : Prop := fnTwinFlushRow.holds Tryz.pinned (OpenSpec.ofChange fnTwinFlushSpec)

/-- ITS FALSE NEIGHBOUR: 'it returns false'. Refute it at one input. -/
def fnTwinFlushWrong : ChangeSpec := { name := "fnTwinFlush", fn := fun _ => fun
  | [d1, d2] => { results := [.lit (.bool false)], args := [d1, d2] }
  | _ => none }
def FnTwinFlushWrongFalsely : Prop := fnTwinFlushRow.holds Tryz.pinned (OpenSpec.ofChange fnTwinFlushWrong)

/-- 'laws.FnTwinEnd': WHATEVER THE INPUT: true; the input reads as it did. -/
def fnTwinEndSpec : ChangeSpec := { name := "fnTwinEnd", fn := fun _ => fun
  | [d] => { results := [.lit (.bool true)], args := [d] }
  | _ => none }
def fnTwinEndRow : OpenClaim := { program := "ythdpnpckmoffaaagreat", sum := "61f5787f6685ff86d0e013247e58247dc0a921e726ac6185b098c8516d0c6c8b", func := "loop.example/gemel/laws.FnTwinEnd", spec := "fnTwinEnd", unfollowed := true, recurses := true, plainKeys := false, apart := false }
def FnTwinEndSaid : Prop := fnTwinEndRow.holds Tryz.pinned (OpenSpec.ofChange fnTwinEndSpec)

/-- ITS FALSE NEIGHBOUR: 'it returns false'. Refute it at one input. -/
def fnTwinEndWrong : ChangeSpec := { name := "fnTwinEnd", fn := fun _ => fun
  | [d] => { results := [.lit (.bool false)], args := [d] }
  | _ => none }
def FnTwinEndWrongFalsely : Prop := fnTwinEndRow.holds Tryz.pinned (OpenSpec.ofChange fnTwinEndWrong)

/-- 'laws.FnTwinMove': WHATEVER THE INPUT: true; the input reads as it did. -/
def fnTwinMoveSpec : ChangeSpec := { name := "fnTwinMove", fn := fun _ => fun
  | [d1, d2] => { results := [.lit (.bool true)], args := [d1, d2] }
  | _ => none }
def fnTwinMoveRow : OpenClaim := { program := "ythdpnpckmoffaaagreat", sum := "61f5787f6685ff86d0e013247e58247dc0a921e726ac6185b098c8516d0c6c8b", func := "loop.example/gemel/laws.FnTwinMove", spec := "fnTwinMove", unfollowed := true, recurses := true, plainKeys := false, apart := false }
def FnTwinMoveSaid : Prop := fnTwinMoveRow.holds Tryz.pinned (OpenSpec.ofChange fnTwinMoveSpec)

/-- ITS FALSE NEIGHBOUR: 'it returns false'. Refute it at one input. -/
def fnTwinMoveWrong : ChangeSpec := { name := "fnTwinMove", fn := fun _ => fun
  | [d1, d2] => { results := [.lit (.bool false)], args := [d1, d2] }
  | _ => none }
def FnTwinMoveWrongFalsely : Prop := fnTwinMoveRow.holds Tryz.pinned (OpenSpec.ofChange fnTwinMoveWrong)

/-- 'laws.FnExactHeapRun': WHATEVER THE INPUT: true; the input reads as it did. -/
def fnExactHeapRunSpec : ChangeSpec := { name := "fnExactHeapRun", fn := fun _ => fun
  | [d1, d2, d3] => { results := [.lit (.bool true)], args := [d1, d2, d3] }
  | _ => none }
def fnExactHeapRunRow : OpenClaim := { program := "ythdpnpckmoffaaagreat", sum := "61f5787f6685ff86d0e013247e58247dc0a921e726ac6185b098c8516d0c6c8b", func := "loop.example/gemel/laws.FnExactHeapRun", spec := "fnExactHeapRun", unfollowed := true, recurses := true, plainKeys := false, apart := false }
def FnExactHeapRunSaid : Prop := fnExactHeapRunRow.holds Tryz.pinned (OpenSpec.ofChange fnExactHeapRunSpec)

/-- ITS FALSE NEIGHBOUR: 'it returns false'. Refute it at one input. -/
def fnExactHeapRunWrong : ChangeSpec := { name := "fnExactHeapRun", fn := fun _ => fun
  | [d1, d2, d3] => { results := [.lit (.bool false)], args := [d1, d2, d3] }
  | _ => none }
def FnExactHeapRunWrongFalsely : Prop := fnExactHeapRunRow.holds Tryz.pinned (OpenSpec.ofChange fnExactHeapRunWrong)

/-- 'laws.FnExactHeapStep': WHATEVER THE INPUT: true; the input reads as it did. -/
def fnExactHeapStepSpec : ChangeSpec := { name := "fnExactHeapStep", fn := fun _ => fun
  | [d1, d2] => { results := [.lit (.bool true)], args := [d1, d2] }
  | _ => none }
def fnExactHeapStepRow : OpenClaim := { program := "ythdpnpckmoffaaagreat", sum := "61f5787f6685ff86d0e013247e58247dc0a921e726ac6185b098c8516d0c6c8b", func := "loop.example/gemel/laws.FnExactHeapStep", spec := "fnExactHeapStep", unfollowed := true, recurses := true, plainKeys := false, apart := false }
def FnExactHeapStepSaid : Prop := fnExactHeapStepRow.holds Tryz.pinned (OpenSpec.ofChange fnExactHeapStepSpec)

/-- ITS FALSE NEIGHBOUR: 'it returns false'. Refute it at one input. -/
def fnExactHeapStepWrong : ChangeSpec := { name := "fnExactHeapStep", fn := fun _ => fun
  | [d1, d2] => { results := [.lit (.bool false)], args := [d1, d2] }
  | _ => none }
def FnExactHeapStepWrongFalsely : Prop := fnExactHeapStepRow.holds Tryz.pinned (OpenSpec.ofChange fnExactHeapStepWrong)

/-- 'laws.FnMachOk': WHATEVER THE INPUT: true; the input reads as it did. -/
def fnMachOkSpec : ChangeSpec := { name := "fnMachOk", fn := fun _ => fun
  | [d] => { results := [.lit (.bool true)], args := [d] }
  | _ => none }
def fnMachOkRow : OpenClaim := { program := "ythdpnpckmoffaaagreat", sum := "61f5787f6685ff86d0e013247e58247dc0a921e726ac6185b098c8516d0c6c8b", func := "loop.example/gemel/laws.FnMachOk", spec := "fnMachOk", unfollowed := true, recurses := true, plainKeys := false, apart := false }
def FnMachOkSaid : Prop := fnMachOkRow.holds Tryz.pinned (OpenSpec.ofChange fnMachOkSpec)

/-- ITS FALSE NEIGHBOUR: 'it returns false'. Refute it at one input. -/
def fnMachOkWrong : ChangeSpec := { name := "fnMachOk", fn := fun _ => fun
  | [d] => { results := [.lit (.bool false)], args := [d] }
  | _ => none }
def FnMachOkWrongFalsely : Prop := fnMachOkRow.holds Tryz.pinned (OpenSpec.ofChange fnMachOkWrong)

/-- 'laws.FnMoveInRun': WHATEVER THE INPUT: true; the input reads as it did. -/
def fnMoveInRunSpec : ChangeSpec := { name := "fnMoveInRun", fn := fun _ => fun
  | [d1, d2] => { results := [.lit (.bool true)], args := [d1, d2] }
  | _ => none }
def fnMoveInRunRow : OpenClaim := { program := "ythdpnpckmoffaaagreat", sum := "61f5787f6685ff86d0e013247e58247dc0a921e726ac6185b098c8516d0c6c8b", func := "loop.example/gemel/laws.FnMoveInRun", spec := "fnMoveInRun", unfollowed := true, recurses := true, plainKeys := false, apart := false }
def FnMoveInRunSaid : Prop := fnMoveInRunRow.holds Tryz.pinned (OpenSpec.ofChange fnMoveInRunSpec)

/-- ITS FALSE NEIGHBOUR: 'it returns false'. Refute it at one input. -/
def fnMoveInRunWrong : ChangeSpec := { name := "fnMoveInRun", fn := fun _ => fun
  | [d1, d2] => { results := [.lit (.bool false)], args := [d1, d2] }
  | _ => none }
def FnMoveInRunWrongFalsely : Prop := fnMoveInRunRow.holds Tryz.pinned (OpenSpec.ofChange fnMoveInRunWrong)

/-- 'laws.FnMoveOut': WHATEVER THE INPUT: true; the input reads as it did. -/
def fnMoveOutSpec : ChangeSpec := { name := "fnMoveOut", fn := fun _ => fun
  | [d] => { results := [.lit (.bool true)], args := [d] }
  | _ => none }
def fnMoveOutRow : OpenClaim := { program := "ythdpnpckmoffaaagreat", sum := "61f5787f6685ff86d0e013247e58247dc0a921e726ac6185b098c8516d0c6c8b", func := "loop.example/gemel/laws.FnMoveOut", spec := "fnMoveOut", unfollowed := true, recurses := true, plainKeys := false, apart := false }
def FnMoveOutSaid : Prop := fnMoveOutRow.holds Tryz.pinned (OpenSpec.ofChange fnMoveOutSpec)

/-- ITS FALSE NEIGHBOUR: 'it returns false'. Refute it at one input. -/
def fnMoveOutWrong : ChangeSpec := { name := "fnMoveOut", fn := fun _ => fun
  | [d] => { results := [.lit (.bool false)], args := [d] }
  | _ => none }
def FnMoveOutWrongFalsely : Prop := fnMoveOutRow.holds Tryz.pinned (OpenSpec.ofChange fnMoveOutWrong)

/-- 'laws.FnMoveTwice': WHATEVER THE INPUT: true; the input reads as it did. -/
def fnMoveTwiceSpec : ChangeSpec := { name := "fnMoveTwice", fn := fun _ => fun
  | [d] => { results := [.lit (.bool true)], args := [d] }
  | _ => none }
def fnMoveTwiceRow : OpenClaim := { program := "ythdpnpckmoffaaagreat", sum := "61f5787f6685ff86d0e013247e58247dc0a921e726ac6185b098c8516d0c6c8b", func := "loop.example/gemel/laws.FnMoveTwice", spec := "fnMoveTwice", unfollowed := true, recurses := true, plainKeys := false, apart := false }
def FnMoveTwiceSaid : Prop := fnMoveTwiceRow.holds Tryz.pinned (OpenSpec.ofChange fnMoveTwiceSpec)

/-- ITS FALSE NEIGHBOUR: 'it returns false'. Refute it at one input. -/
def fnMoveTwiceWrong : ChangeSpec := { name := "fnMoveTwice", fn := fun _ => fun
  | [d] => { results := [.lit (.bool false)], args := [d] }
  | _ => none }
def FnMoveTwiceWrongFalsely : Prop := fnMoveTwiceRow.holds Tryz.pinned (OpenSpec.ofChange fnMoveTwiceWrong)

/-- 'laws.FnMoveTo': WHATEVER THE INPUT: true; the input reads as it did. -/
def fnMoveToSpec : ChangeSpec := { name := "fnMoveTo", fn := fun _ => fun
  | [d] => { results := [.lit (.bool true)], args := [d] }
  | _ => none }
def fnMoveToRow : OpenClaim := { program := "ythdpnpckmoffaaagreat", sum := "61f5787f6685ff86d0e013247e58247dc0a921e726ac6185b098c8516d0c6c8b", func := "loop.example/gemel/laws.FnMoveTo", spec := "fnMoveTo", unfollowed := true, recurses := true, plainKeys := false, apart := false }
def FnMoveToSaid : Prop := fnMoveToRow.holds Tryz.pinned (OpenSpec.ofChange fnMoveToSpec)

/-- ITS FALSE NEIGHBOUR: 'it returns false'. Refute it at one input. -/
def fnMoveToWrong : ChangeSpec := { name := "fnMoveTo", fn := fun _ => fun
  | [d] => { results := [.lit (.bool false)], args := [d] }
  | _ => none }
def FnMoveToWrongFalsely : Prop := fnMoveToRow.holds Tryz.pinned (OpenSpec.ofChange fnMoveToWrong)

/- THE SECOND FORM. 'bulk': how many values and letters a reading holds, each counted each time it is reached (what is shared counts as often as it is met; a slice's spare places count too). A statement '..UptoSaid' is the law's where the arguments, and the package variables that the reading takes, are together of bulk at most 1048576: NARROWER than '..Said'. Prove '..Said' where nothing that the law and all that it calls make is longer than what came in: it says more and counts as full. Else prove '..UptoSaid'. A law counts once. -/
mutual
def uptoBulk {H : Type} : DataW H → Nat
  | .lit (.string bytes) => bytes.length + 1
  | .lit _ => 1
  | .nil => 1
  | .ptr d => uptoBulk d + 1
  | .slice elems spare => uptoBulkAll elems + uptoBulkAll spare + 1
  | .agg parts => uptoBulkAll parts + 1
  | .iface _ d => uptoBulk d + 1
  | .map entries => uptoBulkEntries entries + 1
  | .held _ => 1
def uptoBulkAll {H : Type} : List (DataW H) → Nat
  | [] => 0
  | d :: r => uptoBulk d + uptoBulkAll r
def uptoBulkEntries {H : Type} : List (Lit × DataW H) → Nat
  | [] => 0
  | x :: r => uptoBulkEntry x + uptoBulkEntries r
def uptoBulkEntry {H : Type} : Lit × DataW H → Nat
  | (.string bytes, d) => bytes.length + uptoBulk d + 1
  | (_, d) => uptoBulk d + 1
 end
def uptoSmall : (H : Type) → List (DataW H) → Bool := fun _ ds => decide (uptoBulkAll ds ≤ 1048576)
def OpenSpec.upto (s : _root_.Go.ChangeSpec) : _root_.Go.OpenSpec := { _root_.Go.OpenSpec.ofChange s with cond := some uptoSmall }

/-- 'laws.FnExactMoveTo', WHERE WHAT IT READS IS OF BULK AT MOST 1048576: true; the input reads as it did. -/
def fnExactMoveToUptoRow : OpenClaim := { program := "ythdpnpckmoffaaagreat", sum := "61f5787f6685ff86d0e013247e58247dc0a921e726ac6185b098c8516d0c6c8b", func := "loop.example/gemel/laws.FnExactMoveTo", spec := "fnExactMoveTo", unfollowed := true, recurses := true, plainKeys := false, apart := false, narrowed := true }
def FnExactMoveToUptoSaid : Prop := fnExactMoveToUptoRow.holds Tryz.pinned (OpenSpec.upto fnExactMoveToSpec)

/-- 'laws.FnExactMoveIn', WHERE WHAT IT READS IS OF BULK AT MOST 1048576: true; the input reads as it did. -/
def fnExactMoveInUptoRow : OpenClaim := { program := "ythdpnpckmoffaaagreat", sum := "61f5787f6685ff86d0e013247e58247dc0a921e726ac6185b098c8516d0c6c8b", func := "loop.example/gemel/laws.FnExactMoveIn", spec := "fnExactMoveIn", unfollowed := true, recurses := true, plainKeys := false, apart := false, narrowed := true }
def FnExactMoveInUptoSaid : Prop := fnExactMoveInUptoRow.holds Tryz.pinned (OpenSpec.upto fnExactMoveInSpec)

/-- 'laws.FnMoveIn', WHERE WHAT IT READS IS OF BULK AT MOST 1048576: true; the input reads as it did. -/
def fnMoveInUptoRow : OpenClaim := { program := "ythdpnpckmoffaaagreat", sum := "61f5787f6685ff86d0e013247e58247dc0a921e726ac6185b098c8516d0c6c8b", func := "loop.example/gemel/laws.FnMoveIn", spec := "fnMoveIn", unfollowed := true, recurses := true, plainKeys := false, apart := false, narrowed := true }
def FnMoveInUptoSaid : Prop := fnMoveInUptoRow.holds Tryz.pinned (OpenSpec.upto fnMoveInSpec)

/-- 'laws.FnMoveBack', WHERE WHAT IT READS IS OF BULK AT MOST 1048576: true; the input reads as it did. -/
def fnMoveBackUptoRow : OpenClaim := { program := "ythdpnpckmoffaaagreat", sum := "61f5787f6685ff86d0e013247e58247dc0a921e726ac6185b098c8516d0c6c8b", func := "loop.example/gemel/laws.FnMoveBack", spec := "fnMoveBack", unfollowed := true, recurses := true, plainKeys := false, apart := false, narrowed := true }
def FnMoveBackUptoSaid : Prop := fnMoveBackUptoRow.holds Tryz.pinned (OpenSpec.upto fnMoveBackSpec)

/-- 'laws.FnTwinEach', WHERE WHAT IT READS IS OF BULK AT MOST 1048576: true; the input reads as it did. -/
def fnTwinEachUptoRow : OpenClaim := { program := "ythdpnpckmoffaaagreat", sum := "61f5787f6685ff86d0e013247e58247dc0a921e726ac6185b098c8516d0c6c8b", func := "loop.example/gemel/laws.FnTwinEach", spec := "fnTwinEach", unfollowed := true, recurses := true, plainKeys := false, apart := false, narrowed := true }
def FnTwinEachUptoSaid : Prop := fnTwinEachUptoRow.holds Tryz.pinned (OpenSpec.upto fnTwinEachSpec)

/-- 'laws.FnTwinFlush', WHERE WHAT IT READS IS OF BULK AT MOST 1048576: true; the input reads as it did. -/
def fnTwinFlushUptoRow : OpenClaim := { program := "ythdpnpckmoffaaagreat", sum := "61f5787f6685ff86d0e013247e58247dc0a921e726ac6185b098c8516d0c6c8b", func := "loop.example/gemel/laws.FnTwinFlush", spec := "fnTwinFlush", unfollowed := true, recurses := true, plainKeys := false, apart := false, narrowed := true }
def FnTwinFlushUptoSaid : Prop := fnTwinFlushUptoRow.holds Tryz.pinned (OpenSpec.upto fnTwinFlushSpec)

/-- 'laws.FnTwinEnd', WHERE WHAT IT READS IS OF BULK AT MOST 1048576: true; the input reads as it did. -/
def fnTwinEndUptoRow : OpenClaim := { program := "ythdpnpckmoffaaagreat", sum := "61f5787f6685ff86d0e013247e58247dc0a921e726ac6185b098c8516d0c6c8b", func := "loop.example/gemel/laws.FnTwinEnd", spec := "fnTwinEnd", unfollowed := true, recurses := true, plainKeys := false, apart := false, narrowed := true }
def FnTwinEndUptoSaid : Prop := fnTwinEndUptoRow.holds Tryz.pinned (OpenSpec.upto fnTwinEndSpec)

/-- 'laws.FnTwinMove', WHERE WHAT IT READS IS OF BULK AT MOST 1048576: true; the input reads as it did. -/
def fnTwinMoveUptoRow : OpenClaim := { program := "ythdpnpckmoffaaagreat", sum := "61f5787f6685ff86d0e013247e58247dc0a921e726ac6185b098c8516d0c6c8b", func := "loop.example/gemel/laws.FnTwinMove", spec := "fnTwinMove", unfollowed := true, recurses := true, plainKeys := false, apart := false, narrowed := true }
def FnTwinMoveUptoSaid : Prop := fnTwinMoveUptoRow.holds Tryz.pinned (OpenSpec.upto fnTwinMoveSpec)

/-- 'laws.FnExactHeapRun', WHERE WHAT IT READS IS OF BULK AT MOST 1048576: true; the input reads as it did. -/
def fnExactHeapRunUptoRow : OpenClaim := { program := "ythdpnpckmoffaaagreat", sum := "61f5787f6685ff86d0e013247e58247dc0a921e726ac6185b098c8516d0c6c8b", func := "loop.example/gemel/laws.FnExactHeapRun", spec := "fnExactHeapRun", unfollowed := true, recurses := true, plainKeys := false, apart := false, narrowed := true }
def FnExactHeapRunUptoSaid : Prop := fnExactHeapRunUptoRow.holds Tryz.pinned (OpenSpec.upto fnExactHeapRunSpec)

/-- 'laws.FnExactHeapStep', WHERE WHAT IT READS IS OF BULK AT MOST 1048576: true; the input reads as it did. -/
def fnExactHeapStepUptoRow : OpenClaim := { program := "ythdpnpckmoffaaagreat", sum := "61f5787f6685ff86d0e013247e58247dc0a921e726ac6185b098c8516d0c6c8b", func := "loop.example/gemel/laws.FnExactHeapStep", spec := "fnExactHeapStep", unfollowed := true, recurses := true, plainKeys := false, apart := false, narrowed := true }
def FnExactHeapStepUptoSaid : Prop := fnExactHeapStepUptoRow.holds Tryz.pinned (OpenSpec.upto fnExactHeapStepSpec)

/-- 'laws.FnMachOk', WHERE WHAT IT READS IS OF BULK AT MOST 1048576: true; the input reads as it did. -/
def fnMachOkUptoRow : OpenClaim := { program := "ythdpnpckmoffaaagreat", sum := "61f5787f6685ff86d0e013247e58247dc0a921e726ac6185b098c8516d0c6c8b", func := "loop.example/gemel/laws.FnMachOk", spec := "fnMachOk", unfollowed := true, recurses := true, plainKeys := false, apart := false, narrowed := true }
def FnMachOkUptoSaid : Prop := fnMachOkUptoRow.holds Tryz.pinned (OpenSpec.upto fnMachOkSpec)

/-- 'laws.FnMoveInRun', WHERE WHAT IT READS IS OF BULK AT MOST 1048576: true; the input reads as it did. -/
def fnMoveInRunUptoRow : OpenClaim := { program := "ythdpnpckmoffaaagreat", sum := "61f5787f6685ff86d0e013247e58247dc0a921e726ac6185b098c8516d0c6c8b", func := "loop.example/gemel/laws.FnMoveInRun", spec := "fnMoveInRun", unfollowed := true, recurses := true, plainKeys := false, apart := false, narrowed := true }
def FnMoveInRunUptoSaid : Prop := fnMoveInRunUptoRow.holds Tryz.pinned (OpenSpec.upto fnMoveInRunSpec)

/-- 'laws.FnMoveOut', WHERE WHAT IT READS IS OF BULK AT MOST 1048576: true; the input reads as it did. -/
def fnMoveOutUptoRow : OpenClaim := { program := "ythdpnpckmoffaaagreat", sum := "61f5787f6685ff86d0e013247e58247dc0a921e726ac6185b098c8516d0c6c8b", func := "loop.example/gemel/laws.FnMoveOut", spec := "fnMoveOut", unfollowed := true, recurses := true, plainKeys := false, apart := false, narrowed := true }
def FnMoveOutUptoSaid : Prop := fnMoveOutUptoRow.holds Tryz.pinned (OpenSpec.upto fnMoveOutSpec)

/-- 'laws.FnMoveTwice', WHERE WHAT IT READS IS OF BULK AT MOST 1048576: true; the input reads as it did. -/
def fnMoveTwiceUptoRow : OpenClaim := { program := "ythdpnpckmoffaaagreat", sum := "61f5787f6685ff86d0e013247e58247dc0a921e726ac6185b098c8516d0c6c8b", func := "loop.example/gemel/laws.FnMoveTwice", spec := "fnMoveTwice", unfollowed := true, recurses := true, plainKeys := false, apart := false, narrowed := true }
def FnMoveTwiceUptoSaid : Prop := fnMoveTwiceUptoRow.holds Tryz.pinned (OpenSpec.upto fnMoveTwiceSpec)

/-- 'laws.FnMoveTo', WHERE WHAT IT READS IS OF BULK AT MOST 1048576: true; the input reads as it did. -/
def fnMoveToUptoRow : OpenClaim := { program := "ythdpnpckmoffaaagreat", sum := "61f5787f6685ff86d0e013247e58247dc0a921e726ac6185b098c8516d0c6c8b", func := "loop.example/gemel/laws.FnMoveTo", spec := "fnMoveTo", unfollowed := true, recurses := true, plainKeys := false, apart := false, narrowed := true }
def FnMoveToUptoSaid : Prop := fnMoveToUptoRow.holds Tryz.pinned (OpenSpec.upto fnMoveToSpec)

end Rows
end Go.Proofs.YthdpnpckmoffaaaGreat
