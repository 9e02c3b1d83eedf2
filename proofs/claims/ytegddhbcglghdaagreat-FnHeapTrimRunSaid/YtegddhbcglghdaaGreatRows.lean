/-
  No cell of these rows narrows 'for every input' (looked for: loops, veiled, ifaces, maps, wideKeys, modest, calm, conditions, laid).
  DERIVED. THE GIVEN ROWS OF THIS SEAT. 35 by the template 'for every input the law returns true; each argument reads behind the call as it read before'; 0 by the template 'total and deterministic' (their statements: YtegddhbcglghdaaGreatTotals.lean).
  GIVEN WITH THE SEED: the statements are not yours to turn. If you find one false, say at which input.
  Laid BY PROGRAM, IN A SANDBOX (cutbox-rows.mjs): the forced cells as the released guide's own fill.sh prints them over the translation 2befcff402fc50e7… (all of the seat's roots in one cut). By AI agents, Wed Nov 11 2026. No macro, syntax, notation, axiom, sorry.
-/
import Derived.Test.YtegddhbcglghdaaGreatChecked
import GoSem.Claim
import GoSem.ClaimJoined
import GoSem.ClaimMapViews
import Derived.JoinedTies
import Derived.KernelRfl
namespace Go.Proofs.YtegddhbcglghdaaGreat
/- THE CELL 'sum', in the pinned program and in every row, IS THE sha256 OF THE DUMP (.gsa) THAT YtegddhbcglghdaaGreatProg.lean LOADS. Nothing in Lean hashes anything: it is a label: what it is worth is what the hold of that sum in a sandbox is worth. -/
noncomputable def Tryz.pinned : Pinned := { name := "ytegddhbcglghdaagreat", sum := "2befcff402fc50e7ef16e889698315434b0c9787d319e00af30049fd0292d103", checked := Tryz.checked }
namespace Rows
def none {H : Type} : Left H := { results := [], args := [] }

/-- 'laws.FnExactMoveTo': WHATEVER THE INPUT: true; the input reads as it did. -/
def fnExactMoveToSpec : ChangeSpec := { name := "fnExactMoveTo", fn := fun _ => fun
  | [d1, d2, d3, d4] => { results := [.lit (.bool true)], args := [d1, d2, d3, d4] }
  | _ => none }
def fnExactMoveToRow : OpenClaim := { program := "ytegddhbcglghdaagreat", sum := "2befcff402fc50e7ef16e889698315434b0c9787d319e00af30049fd0292d103", func := "loop.example/gemel/laws.FnExactMoveTo", spec := "fnExactMoveTo", unfollowed := true, recurses := true, plainKeys := false, apart := false }
def FnExactMoveToSaid : Prop := fnExactMoveToRow.holds Tryz.pinned (OpenSpec.ofChange fnExactMoveToSpec)

/-- ITS FALSE NEIGHBOUR: 'it returns false'. Refute it at one input. -/
def fnExactMoveToWrong : ChangeSpec := { name := "fnExactMoveTo", fn := fun _ => fun
  | [d1, d2, d3, d4] => { results := [.lit (.bool false)], args := [d1, d2, d3, d4] }
  | _ => none }
def FnExactMoveToWrongFalsely : Prop := fnExactMoveToRow.holds Tryz.pinned (OpenSpec.ofChange fnExactMoveToWrong)

/-- 'laws.FnExactMoveIn': WHATEVER THE INPUT: true; the input reads as it did. -/
def fnExactMoveInSpec : ChangeSpec := { name := "fnExactMoveIn", fn := fun _ => fun
  | [d1, d2, d3, d4] => { results := [.lit (.bool true)], args := [d1, d2, d3, d4] }
  | _ => none }
def fnExactMoveInRow : OpenClaim := { program := "ytegddhbcglghdaagreat", sum := "2befcff402fc50e7ef16e889698315434b0c9787d319e00af30049fd0292d103", func := "loop.example/gemel/laws.FnExactMoveIn", spec := "fnExactMoveIn", unfollowed := true, recurses := true, plainKeys := false, apart := false }
def FnExactMoveInSaid : Prop := fnExactMoveInRow.holds Tryz.pinned (OpenSpec.ofChange fnExactMoveInSpec)

/-- ITS FALSE NEIGHBOUR: 'it returns false'. Refute it at one input. -/
def fnExactMoveInWrong : ChangeSpec := { name := "fnExactMoveIn", fn := fun _ => fun
  | [d1, d2, d3, d4] => { results := [.lit (.bool false)], args := [d1, d2, d3, d4] }
  | _ => none }
def FnExactMoveInWrongFalsely : Prop := fnExactMoveInRow.holds Tryz.pinned (OpenSpec.ofChange fnExactMoveInWrong)

/-- 'laws.FnMoveIn': WHATEVER THE INPUT: true; the input reads as it did. -/
def fnMoveInSpec : ChangeSpec := { name := "fnMoveIn", fn := fun _ => fun
  | [d] => { results := [.lit (.bool true)], args := [d] }
  | _ => none }
def fnMoveInRow : OpenClaim := { program := "ytegddhbcglghdaagreat", sum := "2befcff402fc50e7ef16e889698315434b0c9787d319e00af30049fd0292d103", func := "loop.example/gemel/laws.FnMoveIn", spec := "fnMoveIn", unfollowed := true, recurses := true, plainKeys := false, apart := false }
def FnMoveInSaid : Prop := fnMoveInRow.holds Tryz.pinned (OpenSpec.ofChange fnMoveInSpec)

/-- ITS FALSE NEIGHBOUR: 'it returns false'. Refute it at one input. -/
def fnMoveInWrong : ChangeSpec := { name := "fnMoveIn", fn := fun _ => fun
  | [d] => { results := [.lit (.bool false)], args := [d] }
  | _ => none }
def FnMoveInWrongFalsely : Prop := fnMoveInRow.holds Tryz.pinned (OpenSpec.ofChange fnMoveInWrong)

/-- 'laws.FnHeapAdd': WHATEVER THE INPUT: true; the input reads as it did. -/
def fnHeapAddSpec : ChangeSpec := { name := "fnHeapAdd", fn := fun _ => fun
  | [d1, d2] => { results := [.lit (.bool true)], args := [d1, d2] }
  | _ => none }
def fnHeapAddRow : OpenClaim := { program := "ytegddhbcglghdaagreat", sum := "2befcff402fc50e7ef16e889698315434b0c9787d319e00af30049fd0292d103", func := "loop.example/gemel/laws.FnHeapAdd", spec := "fnHeapAdd", unfollowed := true, recurses := true, plainKeys := false, apart := false }
def FnHeapAddSaid : Prop := fnHeapAddRow.holds Tryz.pinned (OpenSpec.ofChange fnHeapAddSpec)

/-- ITS FALSE NEIGHBOUR: 'it returns false'. Refute it at one input. -/
def fnHeapAddWrong : ChangeSpec := { name := "fnHeapAdd", fn := fun _ => fun
  | [d1, d2] => { results := [.lit (.bool false)], args := [d1, d2] }
  | _ => none }
def FnHeapAddWrongFalsely : Prop := fnHeapAddRow.holds Tryz.pinned (OpenSpec.ofChange fnHeapAddWrong)

/-- 'laws.FnHeapCall': WHATEVER THE INPUT: true; the input reads as it did. -/
def fnHeapCallSpec : ChangeSpec := { name := "fnHeapCall", fn := fun _ => fun
  | [d1, d2] => { results := [.lit (.bool true)], args := [d1, d2] }
  | _ => none }
def fnHeapCallRow : OpenClaim := { program := "ytegddhbcglghdaagreat", sum := "2befcff402fc50e7ef16e889698315434b0c9787d319e00af30049fd0292d103", func := "loop.example/gemel/laws.FnHeapCall", spec := "fnHeapCall", unfollowed := true, recurses := true, plainKeys := false, apart := false }
def FnHeapCallSaid : Prop := fnHeapCallRow.holds Tryz.pinned (OpenSpec.ofChange fnHeapCallSpec)

/-- ITS FALSE NEIGHBOUR: 'it returns false'. Refute it at one input. -/
def fnHeapCallWrong : ChangeSpec := { name := "fnHeapCall", fn := fun _ => fun
  | [d1, d2] => { results := [.lit (.bool false)], args := [d1, d2] }
  | _ => none }
def FnHeapCallWrongFalsely : Prop := fnHeapCallRow.holds Tryz.pinned (OpenSpec.ofChange fnHeapCallWrong)

/-- 'laws.FnHeapDrop': WHATEVER THE INPUT: true; the input reads as it did. -/
def fnHeapDropSpec : ChangeSpec := { name := "fnHeapDrop", fn := fun _ => fun
  | [d] => { results := [.lit (.bool true)], args := [d] }
  | _ => none }
def fnHeapDropRow : OpenClaim := { program := "ytegddhbcglghdaagreat", sum := "2befcff402fc50e7ef16e889698315434b0c9787d319e00af30049fd0292d103", func := "loop.example/gemel/laws.FnHeapDrop", spec := "fnHeapDrop", unfollowed := true, recurses := true, plainKeys := false, apart := false }
def FnHeapDropSaid : Prop := fnHeapDropRow.holds Tryz.pinned (OpenSpec.ofChange fnHeapDropSpec)

/-- ITS FALSE NEIGHBOUR: 'it returns false'. Refute it at one input. -/
def fnHeapDropWrong : ChangeSpec := { name := "fnHeapDrop", fn := fun _ => fun
  | [d] => { results := [.lit (.bool false)], args := [d] }
  | _ => none }
def FnHeapDropWrongFalsely : Prop := fnHeapDropRow.holds Tryz.pinned (OpenSpec.ofChange fnHeapDropWrong)

/-- 'laws.FnHeapJump': WHATEVER THE INPUT: true; the input reads as it did. -/
def fnHeapJumpSpec : ChangeSpec := { name := "fnHeapJump", fn := fun _ => fun
  | [d1, d2] => { results := [.lit (.bool true)], args := [d1, d2] }
  | _ => none }
def fnHeapJumpRow : OpenClaim := { program := "ytegddhbcglghdaagreat", sum := "2befcff402fc50e7ef16e889698315434b0c9787d319e00af30049fd0292d103", func := "loop.example/gemel/laws.FnHeapJump", spec := "fnHeapJump", unfollowed := true, recurses := true, plainKeys := false, apart := false }
def FnHeapJumpSaid : Prop := fnHeapJumpRow.holds Tryz.pinned (OpenSpec.ofChange fnHeapJumpSpec)

/-- ITS FALSE NEIGHBOUR: 'it returns false'. Refute it at one input. -/
def fnHeapJumpWrong : ChangeSpec := { name := "fnHeapJump", fn := fun _ => fun
  | [d1, d2] => { results := [.lit (.bool false)], args := [d1, d2] }
  | _ => none }
def FnHeapJumpWrongFalsely : Prop := fnHeapJumpRow.holds Tryz.pinned (OpenSpec.ofChange fnHeapJumpWrong)

/-- 'laws.FnHeapNum': WHATEVER THE INPUT: true; the input reads as it did. -/
def fnHeapNumSpec : ChangeSpec := { name := "fnHeapNum", fn := fun _ => fun
  | [d1, d2] => { results := [.lit (.bool true)], args := [d1, d2] }
  | _ => none }
def fnHeapNumRow : OpenClaim := { program := "ytegddhbcglghdaagreat", sum := "2befcff402fc50e7ef16e889698315434b0c9787d319e00af30049fd0292d103", func := "loop.example/gemel/laws.FnHeapNum", spec := "fnHeapNum", unfollowed := true, recurses := true, plainKeys := false, apart := false }
def FnHeapNumSaid : Prop := fnHeapNumRow.holds Tryz.pinned (OpenSpec.ofChange fnHeapNumSpec)

/-- ITS FALSE NEIGHBOUR: 'it returns false'. Refute it at one input. -/
def fnHeapNumWrong : ChangeSpec := { name := "fnHeapNum", fn := fun _ => fun
  | [d1, d2] => { results := [.lit (.bool false)], args := [d1, d2] }
  | _ => none }
def FnHeapNumWrongFalsely : Prop := fnHeapNumRow.holds Tryz.pinned (OpenSpec.ofChange fnHeapNumWrong)

/-- 'laws.FnHeapPeek': WHATEVER THE INPUT: true; the input reads as it did. -/
def fnHeapPeekSpec : ChangeSpec := { name := "fnHeapPeek", fn := fun _ => fun
  | [d1, d2] => { results := [.lit (.bool true)], args := [d1, d2] }
  | _ => none }
def fnHeapPeekRow : OpenClaim := { program := "ytegddhbcglghdaagreat", sum := "2befcff402fc50e7ef16e889698315434b0c9787d319e00af30049fd0292d103", func := "loop.example/gemel/laws.FnHeapPeek", spec := "fnHeapPeek", unfollowed := true, recurses := true, plainKeys := false, apart := false }
def FnHeapPeekSaid : Prop := fnHeapPeekRow.holds Tryz.pinned (OpenSpec.ofChange fnHeapPeekSpec)

/-- ITS FALSE NEIGHBOUR: 'it returns false'. Refute it at one input. -/
def fnHeapPeekWrong : ChangeSpec := { name := "fnHeapPeek", fn := fun _ => fun
  | [d1, d2] => { results := [.lit (.bool false)], args := [d1, d2] }
  | _ => none }
def FnHeapPeekWrongFalsely : Prop := fnHeapPeekRow.holds Tryz.pinned (OpenSpec.ofChange fnHeapPeekWrong)

/-- 'laws.FnHeapRet': WHATEVER THE INPUT: true; the input reads as it did. -/
def fnHeapRetSpec : ChangeSpec := { name := "fnHeapRet", fn := fun _ => fun
  | [d1, d2] => { results := [.lit (.bool true)], args := [d1, d2] }
  | _ => none }
def fnHeapRetRow : OpenClaim := { program := "ytegddhbcglghdaagreat", sum := "2befcff402fc50e7ef16e889698315434b0c9787d319e00af30049fd0292d103", func := "loop.example/gemel/laws.FnHeapRet", spec := "fnHeapRet", unfollowed := true, recurses := true, plainKeys := false, apart := false }
def FnHeapRetSaid : Prop := fnHeapRetRow.holds Tryz.pinned (OpenSpec.ofChange fnHeapRetSpec)

/-- ITS FALSE NEIGHBOUR: 'it returns false'. Refute it at one input. -/
def fnHeapRetWrong : ChangeSpec := { name := "fnHeapRet", fn := fun _ => fun
  | [d1, d2] => { results := [.lit (.bool false)], args := [d1, d2] }
  | _ => none }
def FnHeapRetWrongFalsely : Prop := fnHeapRetRow.holds Tryz.pinned (OpenSpec.ofChange fnHeapRetWrong)

/-- 'laws.FnHeapSet': WHATEVER THE INPUT: true; the input reads as it did. -/
def fnHeapSetSpec : ChangeSpec := { name := "fnHeapSet", fn := fun _ => fun
  | [d1, d2] => { results := [.lit (.bool true)], args := [d1, d2] }
  | _ => none }
def fnHeapSetRow : OpenClaim := { program := "ytegddhbcglghdaagreat", sum := "2befcff402fc50e7ef16e889698315434b0c9787d319e00af30049fd0292d103", func := "loop.example/gemel/laws.FnHeapSet", spec := "fnHeapSet", unfollowed := true, recurses := true, plainKeys := false, apart := false }
def FnHeapSetSaid : Prop := fnHeapSetRow.holds Tryz.pinned (OpenSpec.ofChange fnHeapSetSpec)

/-- ITS FALSE NEIGHBOUR: 'it returns false'. Refute it at one input. -/
def fnHeapSetWrong : ChangeSpec := { name := "fnHeapSet", fn := fun _ => fun
  | [d1, d2] => { results := [.lit (.bool false)], args := [d1, d2] }
  | _ => none }
def FnHeapSetWrongFalsely : Prop := fnHeapSetRow.holds Tryz.pinned (OpenSpec.ofChange fnHeapSetWrong)

/-- 'laws.FnHeapTemp': WHATEVER THE INPUT: true; the input reads as it did. -/
def fnHeapTempSpec : ChangeSpec := { name := "fnHeapTemp", fn := fun _ => fun
  | [d1, d2] => { results := [.lit (.bool true)], args := [d1, d2] }
  | _ => none }
def fnHeapTempRow : OpenClaim := { program := "ytegddhbcglghdaagreat", sum := "2befcff402fc50e7ef16e889698315434b0c9787d319e00af30049fd0292d103", func := "loop.example/gemel/laws.FnHeapTemp", spec := "fnHeapTemp", unfollowed := true, recurses := true, plainKeys := false, apart := false }
def FnHeapTempSaid : Prop := fnHeapTempRow.holds Tryz.pinned (OpenSpec.ofChange fnHeapTempSpec)

/-- ITS FALSE NEIGHBOUR: 'it returns false'. Refute it at one input. -/
def fnHeapTempWrong : ChangeSpec := { name := "fnHeapTemp", fn := fun _ => fun
  | [d1, d2] => { results := [.lit (.bool false)], args := [d1, d2] }
  | _ => none }
def FnHeapTempWrongFalsely : Prop := fnHeapTempRow.holds Tryz.pinned (OpenSpec.ofChange fnHeapTempWrong)

/-- 'laws.FnHeapBack': WHATEVER THE INPUT: true; the input reads as it did. -/
def fnHeapBackSpec : ChangeSpec := { name := "fnHeapBack", fn := fun _ => fun
  | [d1, d2] => { results := [.lit (.bool true)], args := [d1, d2] }
  | _ => none }
def fnHeapBackRow : OpenClaim := { program := "ytegddhbcglghdaagreat", sum := "2befcff402fc50e7ef16e889698315434b0c9787d319e00af30049fd0292d103", func := "loop.example/gemel/laws.FnHeapBack", spec := "fnHeapBack", unfollowed := true, recurses := true, plainKeys := false, apart := false }
def FnHeapBackSaid : Prop := fnHeapBackRow.holds Tryz.pinned (OpenSpec.ofChange fnHeapBackSpec)

/-- ITS FALSE NEIGHBOUR: 'it returns false'. Refute it at one input. -/
def fnHeapBackWrong : ChangeSpec := { name := "fnHeapBack", fn := fun _ => fun
  | [d1, d2] => { results := [.lit (.bool false)], args := [d1, d2] }
  | _ => none }
def FnHeapBackWrongFalsely : Prop := fnHeapBackRow.holds Tryz.pinned (OpenSpec.ofChange fnHeapBackWrong)

/-- 'laws.FnHeapHere': WHATEVER THE INPUT: true; the input reads as it did. -/
def fnHeapHereSpec : ChangeSpec := { name := "fnHeapHere", fn := fun _ => fun
  | [d] => { results := [.lit (.bool true)], args := [d] }
  | _ => none }
def fnHeapHereRow : OpenClaim := { program := "ytegddhbcglghdaagreat", sum := "2befcff402fc50e7ef16e889698315434b0c9787d319e00af30049fd0292d103", func := "loop.example/gemel/laws.FnHeapHere", spec := "fnHeapHere", unfollowed := true, recurses := true, plainKeys := false, apart := false }
def FnHeapHereSaid : Prop := fnHeapHereRow.holds Tryz.pinned (OpenSpec.ofChange fnHeapHereSpec)

/-- ITS FALSE NEIGHBOUR: 'it returns false'. Refute it at one input. -/
def fnHeapHereWrong : ChangeSpec := { name := "fnHeapHere", fn := fun _ => fun
  | [d] => { results := [.lit (.bool false)], args := [d] }
  | _ => none }
def FnHeapHereWrongFalsely : Prop := fnHeapHereRow.holds Tryz.pinned (OpenSpec.ofChange fnHeapHereWrong)

/-- 'laws.FnHeapLook': WHATEVER THE INPUT: true; the input reads as it did. -/
def fnHeapLookSpec : ChangeSpec := { name := "fnHeapLook", fn := fun _ => fun
  | [d1, d2] => { results := [.lit (.bool true)], args := [d1, d2] }
  | _ => none }
def fnHeapLookRow : OpenClaim := { program := "ytegddhbcglghdaagreat", sum := "2befcff402fc50e7ef16e889698315434b0c9787d319e00af30049fd0292d103", func := "loop.example/gemel/laws.FnHeapLook", spec := "fnHeapLook", unfollowed := true, recurses := true, plainKeys := false, apart := false }
def FnHeapLookSaid : Prop := fnHeapLookRow.holds Tryz.pinned (OpenSpec.ofChange fnHeapLookSpec)

/-- ITS FALSE NEIGHBOUR: 'it returns false'. Refute it at one input. -/
def fnHeapLookWrong : ChangeSpec := { name := "fnHeapLook", fn := fun _ => fun
  | [d1, d2] => { results := [.lit (.bool false)], args := [d1, d2] }
  | _ => none }
def FnHeapLookWrongFalsely : Prop := fnHeapLookRow.holds Tryz.pinned (OpenSpec.ofChange fnHeapLookWrong)

/-- 'laws.FnHeapPoke': WHATEVER THE INPUT: true; the input reads as it did. -/
def fnHeapPokeSpec : ChangeSpec := { name := "fnHeapPoke", fn := fun _ => fun
  | [d1, d2] => { results := [.lit (.bool true)], args := [d1, d2] }
  | _ => none }
def fnHeapPokeRow : OpenClaim := { program := "ytegddhbcglghdaagreat", sum := "2befcff402fc50e7ef16e889698315434b0c9787d319e00af30049fd0292d103", func := "loop.example/gemel/laws.FnHeapPoke", spec := "fnHeapPoke", unfollowed := true, recurses := true, plainKeys := false, apart := false }
def FnHeapPokeSaid : Prop := fnHeapPokeRow.holds Tryz.pinned (OpenSpec.ofChange fnHeapPokeSpec)

/-- ITS FALSE NEIGHBOUR: 'it returns false'. Refute it at one input. -/
def fnHeapPokeWrong : ChangeSpec := { name := "fnHeapPoke", fn := fun _ => fun
  | [d1, d2] => { results := [.lit (.bool false)], args := [d1, d2] }
  | _ => none }
def FnHeapPokeWrongFalsely : Prop := fnHeapPokeRow.holds Tryz.pinned (OpenSpec.ofChange fnHeapPokeWrong)

/-- 'laws.FnHeapSame': WHATEVER THE INPUT: true; the input reads as it did. -/
def fnHeapSameSpec : ChangeSpec := { name := "fnHeapSame", fn := fun _ => fun
  | [d1, d2] => { results := [.lit (.bool true)], args := [d1, d2] }
  | _ => none }
def fnHeapSameRow : OpenClaim := { program := "ytegddhbcglghdaagreat", sum := "2befcff402fc50e7ef16e889698315434b0c9787d319e00af30049fd0292d103", func := "loop.example/gemel/laws.FnHeapSame", spec := "fnHeapSame", unfollowed := true, recurses := true, plainKeys := false, apart := false }
def FnHeapSameSaid : Prop := fnHeapSameRow.holds Tryz.pinned (OpenSpec.ofChange fnHeapSameSpec)

/-- ITS FALSE NEIGHBOUR: 'it returns false'. Refute it at one input. -/
def fnHeapSameWrong : ChangeSpec := { name := "fnHeapSame", fn := fun _ => fun
  | [d1, d2] => { results := [.lit (.bool false)], args := [d1, d2] }
  | _ => none }
def FnHeapSameWrongFalsely : Prop := fnHeapSameRow.holds Tryz.pinned (OpenSpec.ofChange fnHeapSameWrong)

/-- 'laws.FnHeapSay': WHATEVER THE INPUT: true; the input reads as it did. -/
def fnHeapSaySpec : ChangeSpec := { name := "fnHeapSay", fn := fun _ => fun
  | [d1, d2] => { results := [.lit (.bool true)], args := [d1, d2] }
  | _ => none }
def fnHeapSayRow : OpenClaim := { program := "ytegddhbcglghdaagreat", sum := "2befcff402fc50e7ef16e889698315434b0c9787d319e00af30049fd0292d103", func := "loop.example/gemel/laws.FnHeapSay", spec := "fnHeapSay", unfollowed := true, recurses := true, plainKeys := false, apart := false }
def FnHeapSaySaid : Prop := fnHeapSayRow.holds Tryz.pinned (OpenSpec.ofChange fnHeapSaySpec)

/-- ITS FALSE NEIGHBOUR: 'it returns false'. Refute it at one input. -/
def fnHeapSayWrong : ChangeSpec := { name := "fnHeapSay", fn := fun _ => fun
  | [d1, d2] => { results := [.lit (.bool false)], args := [d1, d2] }
  | _ => none }
def FnHeapSayWrongFalsely : Prop := fnHeapSayRow.holds Tryz.pinned (OpenSpec.ofChange fnHeapSayWrong)

/-- 'laws.FnHeapSender': WHATEVER THE INPUT: true; the input reads as it did. -/
def fnHeapSenderSpec : ChangeSpec := { name := "fnHeapSender", fn := fun _ => fun
  | [d1, d2] => { results := [.lit (.bool true)], args := [d1, d2] }
  | _ => none }
def fnHeapSenderRow : OpenClaim := { program := "ytegddhbcglghdaagreat", sum := "2befcff402fc50e7ef16e889698315434b0c9787d319e00af30049fd0292d103", func := "loop.example/gemel/laws.FnHeapSender", spec := "fnHeapSender", unfollowed := true, recurses := true, plainKeys := false, apart := false }
def FnHeapSenderSaid : Prop := fnHeapSenderRow.holds Tryz.pinned (OpenSpec.ofChange fnHeapSenderSpec)

/-- ITS FALSE NEIGHBOUR: 'it returns false'. Refute it at one input. -/
def fnHeapSenderWrong : ChangeSpec := { name := "fnHeapSender", fn := fun _ => fun
  | [d1, d2] => { results := [.lit (.bool false)], args := [d1, d2] }
  | _ => none }
def FnHeapSenderWrongFalsely : Prop := fnHeapSenderRow.holds Tryz.pinned (OpenSpec.ofChange fnHeapSenderWrong)

/-- 'laws.FnHeapWhere': WHATEVER THE INPUT: true; the input reads as it did. -/
def fnHeapWhereSpec : ChangeSpec := { name := "fnHeapWhere", fn := fun _ => fun
  | [d1, d2] => { results := [.lit (.bool true)], args := [d1, d2] }
  | _ => none }
def fnHeapWhereRow : OpenClaim := { program := "ytegddhbcglghdaagreat", sum := "2befcff402fc50e7ef16e889698315434b0c9787d319e00af30049fd0292d103", func := "loop.example/gemel/laws.FnHeapWhere", spec := "fnHeapWhere", unfollowed := true, recurses := true, plainKeys := false, apart := false }
def FnHeapWhereSaid : Prop := fnHeapWhereRow.holds Tryz.pinned (OpenSpec.ofChange fnHeapWhereSpec)

/-- ITS FALSE NEIGHBOUR: 'it returns false'. Refute it at one input. -/
def fnHeapWhereWrong : ChangeSpec := { name := "fnHeapWhere", fn := fun _ => fun
  | [d1, d2] => { results := [.lit (.bool false)], args := [d1, d2] }
  | _ => none }
def FnHeapWhereWrongFalsely : Prop := fnHeapWhereRow.holds Tryz.pinned (OpenSpec.ofChange fnHeapWhereWrong)

/-- 'laws.FnHeapZero': WHATEVER THE INPUT: true; the input reads as it did. -/
def fnHeapZeroSpec : ChangeSpec := { name := "fnHeapZero", fn := fun _ => fun
  | [d1, d2] => { results := [.lit (.bool true)], args := [d1, d2] }
  | _ => none }
def fnHeapZeroRow : OpenClaim := { program := "ytegddhbcglghdaagreat", sum := "2befcff402fc50e7ef16e889698315434b0c9787d319e00af30049fd0292d103", func := "loop.example/gemel/laws.FnHeapZero", spec := "fnHeapZero", unfollowed := true, recurses := true, plainKeys := false, apart := false }
def FnHeapZeroSaid : Prop := fnHeapZeroRow.holds Tryz.pinned (OpenSpec.ofChange fnHeapZeroSpec)

/-- ITS FALSE NEIGHBOUR: 'it returns false'. Refute it at one input. -/
def fnHeapZeroWrong : ChangeSpec := { name := "fnHeapZero", fn := fun _ => fun
  | [d1, d2] => { results := [.lit (.bool false)], args := [d1, d2] }
  | _ => none }
def FnHeapZeroWrongFalsely : Prop := fnHeapZeroRow.holds Tryz.pinned (OpenSpec.ofChange fnHeapZeroWrong)

/-- 'laws.FnMoveBack': WHATEVER THE INPUT: true; the input reads as it did. -/
def fnMoveBackSpec : ChangeSpec := { name := "fnMoveBack", fn := fun _ => fun
  | [d] => { results := [.lit (.bool true)], args := [d] }
  | _ => none }
def fnMoveBackRow : OpenClaim := { program := "ytegddhbcglghdaagreat", sum := "2befcff402fc50e7ef16e889698315434b0c9787d319e00af30049fd0292d103", func := "loop.example/gemel/laws.FnMoveBack", spec := "fnMoveBack", unfollowed := true, recurses := true, plainKeys := false, apart := false }
def FnMoveBackSaid : Prop := fnMoveBackRow.holds Tryz.pinned (OpenSpec.ofChange fnMoveBackSpec)

/-- ITS FALSE NEIGHBOUR: 'it returns false'. Refute it at one input. -/
def fnMoveBackWrong : ChangeSpec := { name := "fnMoveBack", fn := fun _ => fun
  | [d] => { results := [.lit (.bool false)], args := [d] }
  | _ => none }
def FnMoveBackWrongFalsely : Prop := fnMoveBackRow.holds Tryz.pinned (OpenSpec.ofChange fnMoveBackWrong)

/-- 'laws.FnTwinEach': WHATEVER THE INPUT: true; the input reads as it did. -/
def fnTwinEachSpec : ChangeSpec := { name := "fnTwinEach", fn := fun _ => fun
  | [d] => { results := [.lit (.bool true)], args := [d] }
  | _ => none }
def fnTwinEachRow : OpenClaim := { program := "ytegddhbcglghdaagreat", sum := "2befcff402fc50e7ef16e889698315434b0c9787d319e00af30049fd0292d103", func := "loop.example/gemel/laws.FnTwinEach", spec := "fnTwinEach", unfollowed := true, recurses := true, plainKeys := false, apart := false }
def FnTwinEachSaid : Prop := fnTwinEachRow.holds Tryz.pinned (OpenSpec.ofChange fnTwinEachSpec)

/-- ITS FALSE NEIGHBOUR: 'it returns false'. Refute it at one input. -/
def fnTwinEachWrong : ChangeSpec := { name := "fnTwinEach", fn := fun _ => fun
  | [d] => { results := [.lit (.bool false)], args := [d] }
  | _ => none }
def FnTwinEachWrongFalsely : Prop := fnTwinEachRow.holds Tryz.pinned (OpenSpec.ofChange fnTwinEachWrong)

/-- 'laws.FnHeapTrimRun': WHATEVER THE INPUT: true; the input reads as it did. -/
def fnHeapTrimRunSpec : ChangeSpec := { name := "fnHeapTrimRun", fn := fun _ => fun
  | [d] => { results := [.lit (.bool true)], args := [d] }
  | _ => none }
def fnHeapTrimRunRow : OpenClaim := { program := "ytegddhbcglghdaagreat", sum := "2befcff402fc50e7ef16e889698315434b0c9787d319e00af30049fd0292d103", func := "loop.example/gemel/laws.FnHeapTrimRun", spec := "fnHeapTrimRun", unfollowed := true, recurses := true, plainKeys := false, apart := false }
def FnHeapTrimRunSaid : Prop := fnHeapTrimRunRow.holds Tryz.pinned (OpenSpec.ofChange fnHeapTrimRunSpec)

/-- ITS FALSE NEIGHBOUR: 'it returns false'. Refute it at one input. -/
def fnHeapTrimRunWrong : ChangeSpec := { name := "fnHeapTrimRun", fn := fun _ => fun
  | [d] => { results := [.lit (.bool false)], args := [d] }
  | _ => none }
def FnHeapTrimRunWrongFalsely : Prop := fnHeapTrimRunRow.holds Tryz.pinned (OpenSpec.ofChange fnHeapTrimRunWrong)

/-- 'laws.FnHeapDead': WHATEVER THE INPUT: true; the input reads as it did. -/
def fnHeapDeadSpec : ChangeSpec := { name := "fnHeapDead", fn := fun _ => fun
  | [d] => { results := [.lit (.bool true)], args := [d] }
  | _ => none }
def fnHeapDeadRow : OpenClaim := { program := "ytegddhbcglghdaagreat", sum := "2befcff402fc50e7ef16e889698315434b0c9787d319e00af30049fd0292d103", func := "loop.example/gemel/laws.FnHeapDead", spec := "fnHeapDead", unfollowed := true, recurses := true, plainKeys := false, apart := false }
def FnHeapDeadSaid : Prop := fnHeapDeadRow.holds Tryz.pinned (OpenSpec.ofChange fnHeapDeadSpec)

/-- ITS FALSE NEIGHBOUR: 'it returns false'. Refute it at one input. -/
def fnHeapDeadWrong : ChangeSpec := { name := "fnHeapDead", fn := fun _ => fun
  | [d] => { results := [.lit (.bool false)], args := [d] }
  | _ => none }
def FnHeapDeadWrongFalsely : Prop := fnHeapDeadRow.holds Tryz.pinned (OpenSpec.ofChange fnHeapDeadWrong)

/-- 'laws.FnTwinFlush': WHATEVER THE INPUT: true; the input reads as it did. -/
def fnTwinFlushSpec : ChangeSpec := { name := "fnTwinFlush", fn := fun _ => fun
  | [d1, d2] => { results := [.lit (.bool true)], args := [d1, d2] }
  | _ => none }
def fnTwinFlushRow : OpenClaim := { program := "ytegddhbcglghdaagreat", sum := "2befcff402fc50e7ef16e889698315434b0c9787d319e00af30049fd0292d103", func := "loop.example/gemel/laws.FnTwinFlush", spec := "fnTwinFlush", unfollowed := true, recurses := true, plainKeys := false, apart := false }
def FnTwinFlushSaid : Prop := fnTwinFlushRow.holds Tryz.pinned (OpenSpec.ofChange fnTwinFlushSpec)

/-- ITS FALSE NEIGHBOUR: 'it returns false'. Refute it at one input. -/
def fnTwinFlushWrong : ChangeSpec := { name := "fnTwinFlush", fn := fun _ => fun
  | [d1, d2] => { results := [.lit (.bool false)], args := [d1, d2] }
  | _ => none }
def FnTwinFlushWrongFalsely : Prop := fnTwinFlushRow.holds Tryz.pinned (OpenSpec.ofChange fnTwinFlushWrong)

/-- 'laws.FnTwinEnd': WHATEVER THE INPUT: true; the input reads as it did. -/
def fnTwinEndSpec : ChangeSpec := { name := "fnTwinEnd", fn := fun _ => fun
  | [d] => { results := [.lit (.bool true)], args := [d] }
  | _ => none }
def fnTwinEndRow : OpenClaim := { program := "ytegddhbcglghdaagreat", sum := "2befcff402fc50e7ef16e889698315434b0c9787d319e00af30049fd0292d103", func := "loop.example/gemel/laws.FnTwinEnd", spec := "fnTwinEnd", unfollowed := true, recurses := true, plainKeys := false, apart := false }
def FnTwinEndSaid : Prop := fnTwinEndRow.holds Tryz.pinned (OpenSpec.ofChange fnTwinEndSpec)

/-- ITS FALSE NEIGHBOUR: 'it returns false'. Refute it at one input. -/
def fnTwinEndWrong : ChangeSpec := { name := "fnTwinEnd", fn := fun _ => fun
  | [d] => { results := [.lit (.bool false)], args := [d] }
  | _ => none }
def FnTwinEndWrongFalsely : Prop := fnTwinEndRow.holds Tryz.pinned (OpenSpec.ofChange fnTwinEndWrong)

/-- 'laws.FnTwinMove': WHATEVER THE INPUT: true; the input reads as it did. -/
def fnTwinMoveSpec : ChangeSpec := { name := "fnTwinMove", fn := fun _ => fun
  | [d1, d2] => { results := [.lit (.bool true)], args := [d1, d2] }
  | _ => none }
def fnTwinMoveRow : OpenClaim := { program := "ytegddhbcglghdaagreat", sum := "2befcff402fc50e7ef16e889698315434b0c9787d319e00af30049fd0292d103", func := "loop.example/gemel/laws.FnTwinMove", spec := "fnTwinMove", unfollowed := true, recurses := true, plainKeys := false, apart := false }
def FnTwinMoveSaid : Prop := fnTwinMoveRow.holds Tryz.pinned (OpenSpec.ofChange fnTwinMoveSpec)

/-- ITS FALSE NEIGHBOUR: 'it returns false'. Refute it at one input. -/
def fnTwinMoveWrong : ChangeSpec := { name := "fnTwinMove", fn := fun _ => fun
  | [d1, d2] => { results := [.lit (.bool false)], args := [d1, d2] }
  | _ => none }
def FnTwinMoveWrongFalsely : Prop := fnTwinMoveRow.holds Tryz.pinned (OpenSpec.ofChange fnTwinMoveWrong)

/-- 'laws.FnExactHeapRun': WHATEVER THE INPUT: true; the input reads as it did. -/
def fnExactHeapRunSpec : ChangeSpec := { name := "fnExactHeapRun", fn := fun _ => fun
  | [d1, d2, d3] => { results := [.lit (.bool true)], args := [d1, d2, d3] }
  | _ => none }
def fnExactHeapRunRow : OpenClaim := { program := "ytegddhbcglghdaagreat", sum := "2befcff402fc50e7ef16e889698315434b0c9787d319e00af30049fd0292d103", func := "loop.example/gemel/laws.FnExactHeapRun", spec := "fnExactHeapRun", unfollowed := true, recurses := true, plainKeys := false, apart := false }
def FnExactHeapRunSaid : Prop := fnExactHeapRunRow.holds Tryz.pinned (OpenSpec.ofChange fnExactHeapRunSpec)

/-- ITS FALSE NEIGHBOUR: 'it returns false'. Refute it at one input. -/
def fnExactHeapRunWrong : ChangeSpec := { name := "fnExactHeapRun", fn := fun _ => fun
  | [d1, d2, d3] => { results := [.lit (.bool false)], args := [d1, d2, d3] }
  | _ => none }
def FnExactHeapRunWrongFalsely : Prop := fnExactHeapRunRow.holds Tryz.pinned (OpenSpec.ofChange fnExactHeapRunWrong)

/-- 'laws.FnExactHeapStep': WHATEVER THE INPUT: true; the input reads as it did. -/
def fnExactHeapStepSpec : ChangeSpec := { name := "fnExactHeapStep", fn := fun _ => fun
  | [d1, d2] => { results := [.lit (.bool true)], args := [d1, d2] }
  | _ => none }
def fnExactHeapStepRow : OpenClaim := { program := "ytegddhbcglghdaagreat", sum := "2befcff402fc50e7ef16e889698315434b0c9787d319e00af30049fd0292d103", func := "loop.example/gemel/laws.FnExactHeapStep", spec := "fnExactHeapStep", unfollowed := true, recurses := true, plainKeys := false, apart := false }
def FnExactHeapStepSaid : Prop := fnExactHeapStepRow.holds Tryz.pinned (OpenSpec.ofChange fnExactHeapStepSpec)

/-- ITS FALSE NEIGHBOUR: 'it returns false'. Refute it at one input. -/
def fnExactHeapStepWrong : ChangeSpec := { name := "fnExactHeapStep", fn := fun _ => fun
  | [d1, d2] => { results := [.lit (.bool false)], args := [d1, d2] }
  | _ => none }
def FnExactHeapStepWrongFalsely : Prop := fnExactHeapStepRow.holds Tryz.pinned (OpenSpec.ofChange fnExactHeapStepWrong)

/-- 'laws.FnMachOk': WHATEVER THE INPUT: true; the input reads as it did. -/
def fnMachOkSpec : ChangeSpec := { name := "fnMachOk", fn := fun _ => fun
  | [d] => { results := [.lit (.bool true)], args := [d] }
  | _ => none }
def fnMachOkRow : OpenClaim := { program := "ytegddhbcglghdaagreat", sum := "2befcff402fc50e7ef16e889698315434b0c9787d319e00af30049fd0292d103", func := "loop.example/gemel/laws.FnMachOk", spec := "fnMachOk", unfollowed := true, recurses := true, plainKeys := false, apart := false }
def FnMachOkSaid : Prop := fnMachOkRow.holds Tryz.pinned (OpenSpec.ofChange fnMachOkSpec)

/-- ITS FALSE NEIGHBOUR: 'it returns false'. Refute it at one input. -/
def fnMachOkWrong : ChangeSpec := { name := "fnMachOk", fn := fun _ => fun
  | [d] => { results := [.lit (.bool false)], args := [d] }
  | _ => none }
def FnMachOkWrongFalsely : Prop := fnMachOkRow.holds Tryz.pinned (OpenSpec.ofChange fnMachOkWrong)

/-- 'laws.FnMoveInRun': WHATEVER THE INPUT: true; the input reads as it did. -/
def fnMoveInRunSpec : ChangeSpec := { name := "fnMoveInRun", fn := fun _ => fun
  | [d1, d2] => { results := [.lit (.bool true)], args := [d1, d2] }
  | _ => none }
def fnMoveInRunRow : OpenClaim := { program := "ytegddhbcglghdaagreat", sum := "2befcff402fc50e7ef16e889698315434b0c9787d319e00af30049fd0292d103", func := "loop.example/gemel/laws.FnMoveInRun", spec := "fnMoveInRun", unfollowed := true, recurses := true, plainKeys := false, apart := false }
def FnMoveInRunSaid : Prop := fnMoveInRunRow.holds Tryz.pinned (OpenSpec.ofChange fnMoveInRunSpec)

/-- ITS FALSE NEIGHBOUR: 'it returns false'. Refute it at one input. -/
def fnMoveInRunWrong : ChangeSpec := { name := "fnMoveInRun", fn := fun _ => fun
  | [d1, d2] => { results := [.lit (.bool false)], args := [d1, d2] }
  | _ => none }
def FnMoveInRunWrongFalsely : Prop := fnMoveInRunRow.holds Tryz.pinned (OpenSpec.ofChange fnMoveInRunWrong)

/-- 'laws.FnMoveOut': WHATEVER THE INPUT: true; the input reads as it did. -/
def fnMoveOutSpec : ChangeSpec := { name := "fnMoveOut", fn := fun _ => fun
  | [d] => { results := [.lit (.bool true)], args := [d] }
  | _ => none }
def fnMoveOutRow : OpenClaim := { program := "ytegddhbcglghdaagreat", sum := "2befcff402fc50e7ef16e889698315434b0c9787d319e00af30049fd0292d103", func := "loop.example/gemel/laws.FnMoveOut", spec := "fnMoveOut", unfollowed := true, recurses := true, plainKeys := false, apart := false }
def FnMoveOutSaid : Prop := fnMoveOutRow.holds Tryz.pinned (OpenSpec.ofChange fnMoveOutSpec)

/-- ITS FALSE NEIGHBOUR: 'it returns false'. Refute it at one input. -/
def fnMoveOutWrong : ChangeSpec := { name := "fnMoveOut", fn := fun _ => fun
  | [d] => { results := [.lit (.bool false)], args := [d] }
  | _ => none }
def FnMoveOutWrongFalsely : Prop := fnMoveOutRow.holds Tryz.pinned (OpenSpec.ofChange fnMoveOutWrong)

/-- 'laws.FnMoveTwice': WHATEVER THE INPUT: true; the input reads as it did. -/
def fnMoveTwiceSpec : ChangeSpec := { name := "fnMoveTwice", fn := fun _ => fun
  | [d] => { results := [.lit (.bool true)], args := [d] }
  | _ => none }
def fnMoveTwiceRow : OpenClaim := { program := "ytegddhbcglghdaagreat", sum := "2befcff402fc50e7ef16e889698315434b0c9787d319e00af30049fd0292d103", func := "loop.example/gemel/laws.FnMoveTwice", spec := "fnMoveTwice", unfollowed := true, recurses := true, plainKeys := false, apart := false }
def FnMoveTwiceSaid : Prop := fnMoveTwiceRow.holds Tryz.pinned (OpenSpec.ofChange fnMoveTwiceSpec)

/-- ITS FALSE NEIGHBOUR: 'it returns false'. Refute it at one input. -/
def fnMoveTwiceWrong : ChangeSpec := { name := "fnMoveTwice", fn := fun _ => fun
  | [d] => { results := [.lit (.bool false)], args := [d] }
  | _ => none }
def FnMoveTwiceWrongFalsely : Prop := fnMoveTwiceRow.holds Tryz.pinned (OpenSpec.ofChange fnMoveTwiceWrong)

/-- 'laws.FnMoveTo': WHATEVER THE INPUT: true; the input reads as it did. -/
def fnMoveToSpec : ChangeSpec := { name := "fnMoveTo", fn := fun _ => fun
  | [d] => { results := [.lit (.bool true)], args := [d] }
  | _ => none }
def fnMoveToRow : OpenClaim := { program := "ytegddhbcglghdaagreat", sum := "2befcff402fc50e7ef16e889698315434b0c9787d319e00af30049fd0292d103", func := "loop.example/gemel/laws.FnMoveTo", spec := "fnMoveTo", unfollowed := true, recurses := true, plainKeys := false, apart := false }
def FnMoveToSaid : Prop := fnMoveToRow.holds Tryz.pinned (OpenSpec.ofChange fnMoveToSpec)

/-- ITS FALSE NEIGHBOUR: 'it returns false'. Refute it at one input. -/
def fnMoveToWrong : ChangeSpec := { name := "fnMoveTo", fn := fun _ => fun
  | [d] => { results := [.lit (.bool false)], args := [d] }
  | _ => none }
def FnMoveToWrongFalsely : Prop := fnMoveToRow.holds Tryz.pinned (OpenSpec.ofChange fnMoveToWrong)

/- THE SECOND FORM. 'bulk': how many values and letters a reading holds, each counted each time it is reached (what is shared counts as often as it is met; a slice's spare places count too). A statement '..UptoSaid' is the law's where the arguments, and the package variables that the reading takes, are together of bulk at most 1048576: NARROWER than '..Said'. Prove '..Said' where nothing that the law and all that it calls make is longer than what came in: it says more and counts as full. Else prove '..UptoSaid'. A law counts once. -/
mutual
def uptoBulk {H : Type} : DataW H → Nat
  | .lit (.string bytes) => bytes.length + 1
  | .lit _ => 1
  | .nil => 1
  | .ptr d => uptoBulk d + 1
  | .slice elems spare => uptoBulkAll elems + uptoBulkAll spare + 1
  | .agg parts => uptoBulkAll parts + 1
  | .iface _ d => uptoBulk d + 1
  | .map entries => uptoBulkEntries entries + 1
  | .held _ => 1
def uptoBulkAll {H : Type} : List (DataW H) → Nat
  | [] => 0
  | d :: r => uptoBulk d + uptoBulkAll r
def uptoBulkEntries {H : Type} : List (Lit × DataW H) → Nat
  | [] => 0
  | x :: r => uptoBulkEntry x + uptoBulkEntries r
def uptoBulkEntry {H : Type} : Lit × DataW H → Nat
  | (.string bytes, d) => bytes.length + uptoBulk d + 1
  | (_, d) => uptoBulk d + 1
 end
def uptoSmall : (H : Type) → List (DataW H) → Bool := fun _ ds => decide (uptoBulkAll ds ≤ 1048576)
def OpenSpec.upto (s : _root_.Go.ChangeSpec) : _root_.Go.OpenSpec := { _root_.Go.OpenSpec.ofChange s with cond := some uptoSmall }

/-- 'laws.FnExactMoveTo', WHERE WHAT IT READS IS OF BULK AT MOST 1048576: true; the input reads as it did. -/
def fnExactMoveToUptoRow : OpenClaim := { program := "ytegddhbcglghdaagreat", sum := "2befcff402fc50e7ef16e889698315434b0c9787d319e00af30049fd0292d103", func := "loop.example/gemel/laws.FnExactMoveTo", spec := "fnExactMoveTo", unfollowed := true, recurses := true, plainKeys := false, apart := false, narrowed := true }
def FnExactMoveToUptoSaid : Prop := fnExactMoveToUptoRow.holds Tryz.pinned (OpenSpec.upto fnExactMoveToSpec)

/-- 'laws.FnExactMoveIn', WHERE WHAT IT READS IS OF BULK AT MOST 1048576: true; the input reads as it did. -/
def fnExactMoveInUptoRow : OpenClaim := { program := "ytegddhbcglghdaagreat", sum := "2befcff402fc50e7ef16e889698315434b0c9787d319e00af30049fd0292d103", func := "loop.example/gemel/laws.FnExactMoveIn", spec := "fnExactMoveIn", unfollowed := true, recurses := true, plainKeys := false, apart := false, narrowed := true }
def FnExactMoveInUptoSaid : Prop := fnExactMoveInUptoRow.holds Tryz.pinned (OpenSpec.upto fnExactMoveInSpec)

/-- 'laws.FnMoveIn', WHERE WHAT IT READS IS OF BULK AT MOST 1048576: true; the input reads as it did. -/
def fnMoveInUptoRow : OpenClaim := { program := "ytegddhbcglghdaagreat", sum := "2befcff402fc50e7ef16e889698315434b0c9787d319e00af30049fd0292d103", func := "loop.example/gemel/laws.FnMoveIn", spec := "fnMoveIn", unfollowed := true, recurses := true, plainKeys := false, apart := false, narrowed := true }
def FnMoveInUptoSaid : Prop := fnMoveInUptoRow.holds Tryz.pinned (OpenSpec.upto fnMoveInSpec)

/-- 'laws.FnHeapAdd', WHERE WHAT IT READS IS OF BULK AT MOST 1048576: true; the input reads as it did. -/
def fnHeapAddUptoRow : OpenClaim := { program := "ytegddhbcglghdaagreat", sum := "2befcff402fc50e7ef16e889698315434b0c9787d319e00af30049fd0292d103", func := "loop.example/gemel/laws.FnHeapAdd", spec := "fnHeapAdd", unfollowed := true, recurses := true, plainKeys := false, apart := false, narrowed := true }
def FnHeapAddUptoSaid : Prop := fnHeapAddUptoRow.holds Tryz.pinned (OpenSpec.upto fnHeapAddSpec)

/-- 'laws.FnHeapCall', WHERE WHAT IT READS IS OF BULK AT MOST 1048576: true; the input reads as it did. -/
def fnHeapCallUptoRow : OpenClaim := { program := "ytegddhbcglghdaagreat", sum := "2befcff402fc50e7ef16e889698315434b0c9787d319e00af30049fd0292d103", func := "loop.example/gemel/laws.FnHeapCall", spec := "fnHeapCall", unfollowed := true, recurses := true, plainKeys := false, apart := false, narrowed := true }
def FnHeapCallUptoSaid : Prop := fnHeapCallUptoRow.holds Tryz.pinned (OpenSpec.upto fnHeapCallSpec)

/-- 'laws.FnHeapDrop', WHERE WHAT IT READS IS OF BULK AT MOST 1048576: true; the input reads as it did. -/
def fnHeapDropUptoRow : OpenClaim := { program := "ytegddhbcglghdaagreat", sum := "2befcff402fc50e7ef16e889698315434b0c9787d319e00af30049fd0292d103", func := "loop.example/gemel/laws.FnHeapDrop", spec := "fnHeapDrop", unfollowed := true, recurses := true, plainKeys := false, apart := false, narrowed := true }
def FnHeapDropUptoSaid : Prop := fnHeapDropUptoRow.holds Tryz.pinned (OpenSpec.upto fnHeapDropSpec)

/-- 'laws.FnHeapJump', WHERE WHAT IT READS IS OF BULK AT MOST 1048576: true; the input reads as it did. -/
def fnHeapJumpUptoRow : OpenClaim := { program := "ytegddhbcglghdaagreat", sum := "2befcff402fc50e7ef16e889698315434b0c9787d319e00af30049fd0292d103", func := "loop.example/gemel/laws.FnHeapJump", spec := "fnHeapJump", unfollowed := true, recurses := true, plainKeys := false, apart := false, narrowed := true }
def FnHeapJumpUptoSaid : Prop := fnHeapJumpUptoRow.holds Tryz.pinned (OpenSpec.upto fnHeapJumpSpec)

/-- 'laws.FnHeapNum', WHERE WHAT IT READS IS OF BULK AT MOST 1048576: true; the input reads as it did. -/
def fnHeapNumUptoRow : OpenClaim := { program := "ytegddhbcglghdaagreat", sum := "2befcff402fc50e7ef16e889698315434b0c9787d319e00af30049fd0292d103", func := "loop.example/gemel/laws.FnHeapNum", spec := "fnHeapNum", unfollowed := true, recurses := true, plainKeys := false, apart := false, narrowed := true }
def FnHeapNumUptoSaid : Prop := fnHeapNumUptoRow.holds Tryz.pinned (OpenSpec.upto fnHeapNumSpec)

/-- 'laws.FnHeapPeek', WHERE WHAT IT READS IS OF BULK AT MOST 1048576: true; the input reads as it did. -/
def fnHeapPeekUptoRow : OpenClaim := { program := "ytegddhbcglghdaagreat", sum := "2befcff402fc50e7ef16e889698315434b0c9787d319e00af30049fd0292d103", func := "loop.example/gemel/laws.FnHeapPeek", spec := "fnHeapPeek", unfollowed := true, recurses := true, plainKeys := false, apart := false, narrowed := true }
def FnHeapPeekUptoSaid : Prop := fnHeapPeekUptoRow.holds Tryz.pinned (OpenSpec.upto fnHeapPeekSpec)

/-- 'laws.FnHeapRet', WHERE WHAT IT READS IS OF BULK AT MOST 1048576: true; the input reads as it did. -/
def fnHeapRetUptoRow : OpenClaim := { program := "ytegddhbcglghdaagreat", sum := "2befcff402fc50e7ef16e889698315434b0c9787d319e00af30049fd0292d103", func := "loop.example/gemel/laws.FnHeapRet", spec := "fnHeapRet", unfollowed := true, recurses := true, plainKeys := false, apart := false, narrowed := true }
def FnHeapRetUptoSaid : Prop := fnHeapRetUptoRow.holds Tryz.pinned (OpenSpec.upto fnHeapRetSpec)

/-- 'laws.FnHeapSet', WHERE WHAT IT READS IS OF BULK AT MOST 1048576: true; the input reads as it did. -/
def fnHeapSetUptoRow : OpenClaim := { program := "ytegddhbcglghdaagreat", sum := "2befcff402fc50e7ef16e889698315434b0c9787d319e00af30049fd0292d103", func := "loop.example/gemel/laws.FnHeapSet", spec := "fnHeapSet", unfollowed := true, recurses := true, plainKeys := false, apart := false, narrowed := true }
def FnHeapSetUptoSaid : Prop := fnHeapSetUptoRow.holds Tryz.pinned (OpenSpec.upto fnHeapSetSpec)

/-- 'laws.FnHeapTemp', WHERE WHAT IT READS IS OF BULK AT MOST 1048576: true; the input reads as it did. -/
def fnHeapTempUptoRow : OpenClaim := { program := "ytegddhbcglghdaagreat", sum := "2befcff402fc50e7ef16e889698315434b0c9787d319e00af30049fd0292d103", func := "loop.example/gemel/laws.FnHeapTemp", spec := "fnHeapTemp", unfollowed := true, recurses := true, plainKeys := false, apart := false, narrowed := true }
def FnHeapTempUptoSaid : Prop := fnHeapTempUptoRow.holds Tryz.pinned (OpenSpec.upto fnHeapTempSpec)

/-- 'laws.FnHeapBack', WHERE WHAT IT READS IS OF BULK AT MOST 1048576: true; the input reads as it did. -/
def fnHeapBackUptoRow : OpenClaim := { program := "ytegddhbcglghdaagreat", sum := "2befcff402fc50e7ef16e889698315434b0c9787d319e00af30049fd0292d103", func := "loop.example/gemel/laws.FnHeapBack", spec := "fnHeapBack", unfollowed := true, recurses := true, plainKeys := false, apart := false, narrowed := true }
def FnHeapBackUptoSaid : Prop := fnHeapBackUptoRow.holds Tryz.pinned (OpenSpec.upto fnHeapBackSpec)

/-- 'laws.FnHeapHere', WHERE WHAT IT READS IS OF BULK AT MOST 1048576: true; the input reads as it did. -/
def fnHeapHereUptoRow : OpenClaim := { program := "ytegddhbcglghdaagreat", sum := "2befcff402fc50e7ef16e889698315434b0c9787d319e00af30049fd0292d103", func := "loop.example/gemel/laws.FnHeapHere", spec := "fnHeapHere", unfollowed := true, recurses := true, plainKeys := false, apart := false, narrowed := true }
def FnHeapHereUptoSaid : Prop := fnHeapHereUptoRow.holds Tryz.pinned (OpenSpec.upto fnHeapHereSpec)

/-- 'laws.FnHeapLook', WHERE WHAT IT READS IS OF BULK AT MOST 1048576: true; the input reads as it did. -/
def fnHeapLookUptoRow : OpenClaim := { program := "ytegddhbcglghdaagreat", sum := "2befcff402fc50e7ef16e889698315434b0c9787d319e00af30049fd0292d103", func := "loop.example/gemel/laws.FnHeapLook", spec := "fnHeapLook", unfollowed := true, recurses := true, plainKeys := false, apart := false, narrowed := true }
def FnHeapLookUptoSaid : Prop := fnHeapLookUptoRow.holds Tryz.pinned (OpenSpec.upto fnHeapLookSpec)

/-- 'laws.FnHeapPoke', WHERE WHAT IT READS IS OF BULK AT MOST 1048576: true; the input reads as it did. -/
def fnHeapPokeUptoRow : OpenClaim := { program := "ytegddhbcglghdaagreat", sum := "2befcff402fc50e7ef16e889698315434b0c9787d319e00af30049fd0292d103", func := "loop.example/gemel/laws.FnHeapPoke", spec := "fnHeapPoke", unfollowed := true, recurses := true, plainKeys := false, apart := false, narrowed := true }
def FnHeapPokeUptoSaid : Prop := fnHeapPokeUptoRow.holds Tryz.pinned (OpenSpec.upto fnHeapPokeSpec)

/-- 'laws.FnHeapSame', WHERE WHAT IT READS IS OF BULK AT MOST 1048576: true; the input reads as it did. -/
def fnHeapSameUptoRow : OpenClaim := { program := "ytegddhbcglghdaagreat", sum := "2befcff402fc50e7ef16e889698315434b0c9787d319e00af30049fd0292d103", func := "loop.example/gemel/laws.FnHeapSame", spec := "fnHeapSame", unfollowed := true, recurses := true, plainKeys := false, apart := false, narrowed := true }
def FnHeapSameUptoSaid : Prop := fnHeapSameUptoRow.holds Tryz.pinned (OpenSpec.upto fnHeapSameSpec)

/-- 'laws.FnHeapSay', WHERE WHAT IT READS IS OF BULK AT MOST 1048576: true; the input reads as it did. -/
def fnHeapSayUptoRow : OpenClaim := { program := "ytegddhbcglghdaagreat", sum := "2befcff402fc50e7ef16e889698315434b0c9787d319e00af30049fd0292d103", func := "loop.example/gemel/laws.FnHeapSay", spec := "fnHeapSay", unfollowed := true, recurses := true, plainKeys := false, apart := false, narrowed := true }
def FnHeapSayUptoSaid : Prop := fnHeapSayUptoRow.holds Tryz.pinned (OpenSpec.upto fnHeapSaySpec)

/-- 'laws.FnHeapSender', WHERE WHAT IT READS IS OF BULK AT MOST 1048576: true; the input reads as it did. -/
def fnHeapSenderUptoRow : OpenClaim := { program := "ytegddhbcglghdaagreat", sum := "2befcff402fc50e7ef16e889698315434b0c9787d319e00af30049fd0292d103", func := "loop.example/gemel/laws.FnHeapSender", spec := "fnHeapSender", unfollowed := true, recurses := true, plainKeys := false, apart := false, narrowed := true }
def FnHeapSenderUptoSaid : Prop := fnHeapSenderUptoRow.holds Tryz.pinned (OpenSpec.upto fnHeapSenderSpec)

/-- 'laws.FnHeapWhere', WHERE WHAT IT READS IS OF BULK AT MOST 1048576: true; the input reads as it did. -/
def fnHeapWhereUptoRow : OpenClaim := { program := "ytegddhbcglghdaagreat", sum := "2befcff402fc50e7ef16e889698315434b0c9787d319e00af30049fd0292d103", func := "loop.example/gemel/laws.FnHeapWhere", spec := "fnHeapWhere", unfollowed := true, recurses := true, plainKeys := false, apart := false, narrowed := true }
def FnHeapWhereUptoSaid : Prop := fnHeapWhereUptoRow.holds Tryz.pinned (OpenSpec.upto fnHeapWhereSpec)

/-- 'laws.FnHeapZero', WHERE WHAT IT READS IS OF BULK AT MOST 1048576: true; the input reads as it did. -/
def fnHeapZeroUptoRow : OpenClaim := { program := "ytegddhbcglghdaagreat", sum := "2befcff402fc50e7ef16e889698315434b0c9787d319e00af30049fd0292d103", func := "loop.example/gemel/laws.FnHeapZero", spec := "fnHeapZero", unfollowed := true, recurses := true, plainKeys := false, apart := false, narrowed := true }
def FnHeapZeroUptoSaid : Prop := fnHeapZeroUptoRow.holds Tryz.pinned (OpenSpec.upto fnHeapZeroSpec)

/-- 'laws.FnMoveBack', WHERE WHAT IT READS IS OF BULK AT MOST 1048576: true; the input reads as it did. -/
def fnMoveBackUptoRow : OpenClaim := { program := "ytegddhbcglghdaagreat", sum := "2befcff402fc50e7ef16e889698315434b0c9787d319e00af30049fd0292d103", func := "loop.example/gemel/laws.FnMoveBack", spec := "fnMoveBack", unfollowed := true, recurses := true, plainKeys := false, apart := false, narrowed := true }
def FnMoveBackUptoSaid : Prop := fnMoveBackUptoRow.holds Tryz.pinned (OpenSpec.upto fnMoveBackSpec)

/-- 'laws.FnTwinEach', WHERE WHAT IT READS IS OF BULK AT MOST 1048576: true; the input reads as it did. -/
def fnTwinEachUptoRow : OpenClaim := { program := "ytegddhbcglghdaagreat", sum := "2befcff402fc50e7ef16e889698315434b0c9787d319e00af30049fd0292d103", func := "loop.example/gemel/laws.FnTwinEach", spec := "fnTwinEach", unfollowed := true, recurses := true, plainKeys := false, apart := false, narrowed := true }
def FnTwinEachUptoSaid : Prop := fnTwinEachUptoRow.holds Tryz.pinned (OpenSpec.upto fnTwinEachSpec)

/-- 'laws.FnHeapTrimRun', WHERE WHAT IT READS IS OF BULK AT MOST 1048576: true; the input reads as it did. -/
def fnHeapTrimRunUptoRow : OpenClaim := { program := "ytegddhbcglghdaagreat", sum := "2befcff402fc50e7ef16e889698315434b0c9787d319e00af30049fd0292d103", func := "loop.example/gemel/laws.FnHeapTrimRun", spec := "fnHeapTrimRun", unfollowed := true, recurses := true, plainKeys := false, apart := false, narrowed := true }
def FnHeapTrimRunUptoSaid : Prop := fnHeapTrimRunUptoRow.holds Tryz.pinned (OpenSpec.upto fnHeapTrimRunSpec)

/-- 'laws.FnHeapDead', WHERE WHAT IT READS IS OF BULK AT MOST 1048576: true; the input reads as it did. -/
def fnHeapDeadUptoRow : OpenClaim := { program := "ytegddhbcglghdaagreat", sum := "2befcff402fc50e7ef16e889698315434b0c9787d319e00af30049fd0292d103", func := "loop.example/gemel/laws.FnHeapDead", spec := "fnHeapDead", unfollowed := true, recurses := true, plainKeys := false, apart := false, narrowed := true }
def FnHeapDeadUptoSaid : Prop := fnHeapDeadUptoRow.holds Tryz.pinned (OpenSpec.upto fnHeapDeadSpec)

/-- 'laws.FnTwinFlush', WHERE WHAT IT READS IS OF BULK AT MOST 1048576: true; the input reads as it did. -/
def fnTwinFlushUptoRow : OpenClaim := { program := "ytegddhbcglghdaagreat", sum := "2befcff402fc50e7ef16e889698315434b0c9787d319e00af30049fd0292d103", func := "loop.example/gemel/laws.FnTwinFlush", spec := "fnTwinFlush", unfollowed := true, recurses := true, plainKeys := false, apart := false, narrowed := true }
def FnTwinFlushUptoSaid : Prop := fnTwinFlushUptoRow.holds Tryz.pinned (OpenSpec.upto fnTwinFlushSpec)

/-- 'laws.FnTwinEnd', WHERE WHAT IT READS IS OF BULK AT MOST 1048576: true; the input reads as it did. -/
def fnTwinEndUptoRow : OpenClaim := { program := "ytegddhbcglghdaagreat", sum := "2befcff402fc50e7ef16e889698315434b0c9787d319e00af30049fd0292d103", func := "loop.example/gemel/laws.FnTwinEnd", spec := "fnTwinEnd", unfollowed := true, recurses := true, plainKeys := false, apart := false, narrowed := true }
def FnTwinEndUptoSaid : Prop := fnTwinEndUptoRow.holds Tryz.pinned (OpenSpec.upto fnTwinEndSpec)

/-- 'laws.FnTwinMove', WHERE WHAT IT READS IS OF BULK AT MOST 1048576: true; the input reads as it did. -/
def fnTwinMoveUptoRow : OpenClaim := { program := "ytegddhbcglghdaagreat", sum := "2befcff402fc50e7ef16e889698315434b0c9787d319e00af30049fd0292d103", func := "loop.example/gemel/laws.FnTwinMove", spec := "fnTwinMove", unfollowed := true, recurses := true, plainKeys := false, apart := false, narrowed := true }
def FnTwinMoveUptoSaid : Prop := fnTwinMoveUptoRow.holds Tryz.pinned (OpenSpec.upto fnTwinMoveSpec)

/-- 'laws.FnExactHeapRun', WHERE WHAT IT READS IS OF BULK AT MOST 1048576: true; the input reads as it did. -/
def fnExactHeapRunUptoRow : OpenClaim := { program := "ytegddhbcglghdaagreat", sum := "2befcff402fc50e7ef16e889698315434b0c9787d319e00af30049fd0292d103", func := "loop.example/gemel/laws.FnExactHeapRun", spec := "fnExactHeapRun", unfollowed := true, recurses := true, plainKeys := false, apart := false, narrowed := true }
def FnExactHeapRunUptoSaid : Prop := fnExactHeapRunUptoRow.holds Tryz.pinned (OpenSpec.upto fnExactHeapRunSpec)

/-- 'laws.FnExactHeapStep', WHERE WHAT IT READS IS OF BULK AT MOST 1048576: true; the input reads as it did. -/
def fnExactHeapStepUptoRow : OpenClaim := { program := "ytegddhbcglghdaagreat", sum := "2befcff402fc50e7ef16e889698315434b0c9787d319e00af30049fd0292d103", func := "loop.example/gemel/laws.FnExactHeapStep", spec := "fnExactHeapStep", unfollowed := true, recurses := true, plainKeys := false, apart := false, narrowed := true }
def FnExactHeapStepUptoSaid : Prop := fnExactHeapStepUptoRow.holds Tryz.pinned (OpenSpec.upto fnExactHeapStepSpec)

/-- 'laws.FnMachOk', WHERE WHAT IT READS IS OF BULK AT MOST 1048576: true; the input reads as it did. -/
def fnMachOkUptoRow : OpenClaim := { program := "ytegddhbcglghdaagreat", sum := "2befcff402fc50e7ef16e889698315434b0c9787d319e00af30049fd0292d103", func := "loop.example/gemel/laws.FnMachOk", spec := "fnMachOk", unfollowed := true, recurses := true, plainKeys := false, apart := false, narrowed := true }
def FnMachOkUptoSaid : Prop := fnMachOkUptoRow.holds Tryz.pinned (OpenSpec.upto fnMachOkSpec)

/-- 'laws.FnMoveInRun', WHERE WHAT IT READS IS OF BULK AT MOST 1048576: true; the input reads as it did. -/
def fnMoveInRunUptoRow : OpenClaim := { program := "ytegddhbcglghdaagreat", sum := "2befcff402fc50e7ef16e889698315434b0c9787d319e00af30049fd0292d103", func := "loop.example/gemel/laws.FnMoveInRun", spec := "fnMoveInRun", unfollowed := true, recurses := true, plainKeys := false, apart := false, narrowed := true }
def FnMoveInRunUptoSaid : Prop := fnMoveInRunUptoRow.holds Tryz.pinned (OpenSpec.upto fnMoveInRunSpec)

/-- 'laws.FnMoveOut', WHERE WHAT IT READS IS OF BULK AT MOST 1048576: true; the input reads as it did. -/
def fnMoveOutUptoRow : OpenClaim := { program := "ytegddhbcglghdaagreat", sum := "2befcff402fc50e7ef16e889698315434b0c9787d319e00af30049fd0292d103", func := "loop.example/gemel/laws.FnMoveOut", spec := "fnMoveOut", unfollowed := true, recurses := true, plainKeys := false, apart := false, narrowed := true }
def FnMoveOutUptoSaid : Prop := fnMoveOutUptoRow.holds Tryz.pinned (OpenSpec.upto fnMoveOutSpec)

/-- 'laws.FnMoveTwice', WHERE WHAT IT READS IS OF BULK AT MOST 1048576: true; the input reads as it did. -/
def fnMoveTwiceUptoRow : OpenClaim := { program := "ytegddhbcglghdaagreat", sum := "2befcff402fc50e7ef16e889698315434b0c9787d319e00af30049fd0292d103", func := "loop.example/gemel/laws.FnMoveTwice", spec := "fnMoveTwice", unfollowed := true, recurses := true, plainKeys := false, apart := false, narrowed := true }
def FnMoveTwiceUptoSaid : Prop := fnMoveTwiceUptoRow.holds Tryz.pinned (OpenSpec.upto fnMoveTwiceSpec)

/-- 'laws.FnMoveTo', WHERE WHAT IT READS IS OF BULK AT MOST 1048576: true; the input reads as it did. -/
def fnMoveToUptoRow : OpenClaim := { program := "ytegddhbcglghdaagreat", sum := "2befcff402fc50e7ef16e889698315434b0c9787d319e00af30049fd0292d103", func := "loop.example/gemel/laws.FnMoveTo", spec := "fnMoveTo", unfollowed := true, recurses := true, plainKeys := false, apart := false, narrowed := true }
def FnMoveToUptoSaid : Prop := fnMoveToUptoRow.holds Tryz.pinned (OpenSpec.upto fnMoveToSpec)

end Rows
end Go.Proofs.YtegddhbcglghdaaGreat
