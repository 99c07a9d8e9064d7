/-
  No cell of these rows narrows 'for every input' (looked for: loops, veiled, ifaces, maps, wideKeys, modest, calm, conditions, laid).
  DERIVED. THE GIVEN ROWS OF THIS SEAT. 21 by the template 'for every input the law returns true; each argument reads behind the call as it read before'; 0 by the template 'total and deterministic' (their statements: YtijgfgfolkbkoaaTotals.lean).
  GIVEN WITH THE SEED: the statements are not yours to turn. If you find one false, say at which input.
  Laid BY PROGRAM, IN A SANDBOX (cutbox-rows.mjs): the forced cells as the released guide's own fill.sh prints them over the translation 1b80accfee93987e… (all of the seat's roots in one cut). By AI agents, Wed Nov 11 2026. No macro, syntax, notation, axiom, sorry.
-/
import Derived.Test.YtijgfgfolkbkoaaChecked
import GoSem.Claim
import GoSem.ClaimJoined
import GoSem.ClaimMapViews
import Derived.JoinedTies
import Derived.KernelRfl
namespace Go.Proofs.Ytijgfgfolkbkoaa
/- THE CELL 'sum', in the pinned program and in every row, IS THE sha256 OF THE DUMP (.gsa) THAT YtijgfgfolkbkoaaProg.lean LOADS. Nothing in Lean hashes anything: it is a label: what it is worth is what the hold of that sum in a sandbox is worth. -/
noncomputable def Try.pinned : Pinned := { name := "ytijgfgfolkbkoaa", sum := "1b80accfee93987e6e9a5394652ce8ad55c0947bb7610423503acecfe79ae012", checked := Try.checked }
namespace Rows
def none {H : Type} : Left H := { results := [], args := [] }

/-- 'laws.FnExactMovePointer': WHATEVER THE INPUT: true; the input reads as it did. -/
def fnExactMovePointerSpec : ChangeSpec := { name := "fnExactMovePointer", fn := fun _ => fun
  | [d1, d2] => { results := [.lit (.bool true)], args := [d1, d2] }
  | _ => none }
def fnExactMovePointerRow : OpenClaim := { program := "ytijgfgfolkbkoaa", sum := "1b80accfee93987e6e9a5394652ce8ad55c0947bb7610423503acecfe79ae012", func := "loop.example/g00897/laws.FnExactMovePointer", spec := "fnExactMovePointer", apart := false }
def FnExactMovePointerSaid : Prop := fnExactMovePointerRow.holds Try.pinned (OpenSpec.ofChange fnExactMovePointerSpec)

/-- ITS FALSE NEIGHBOUR: 'it returns false'. Refute it at one input. -/
def fnExactMovePointerWrong : ChangeSpec := { name := "fnExactMovePointer", fn := fun _ => fun
  | [d1, d2] => { results := [.lit (.bool false)], args := [d1, d2] }
  | _ => none }
def FnExactMovePointerWrongFalsely : Prop := fnExactMovePointerRow.holds Try.pinned (OpenSpec.ofChange fnExactMovePointerWrong)

/-- 'laws.FnExactSpanLoss': WHATEVER THE INPUT: true; the input reads as it did. -/
def fnExactSpanLossSpec : ChangeSpec := { name := "fnExactSpanLoss", fn := fun _ => fun
  | [d] => { results := [.lit (.bool true)], args := [d] }
  | _ => none }
def fnExactSpanLossRow : OpenClaim := { program := "ytijgfgfolkbkoaa", sum := "1b80accfee93987e6e9a5394652ce8ad55c0947bb7610423503acecfe79ae012", func := "loop.example/g00897/laws.FnExactSpanLoss", spec := "fnExactSpanLoss", apart := false }
def FnExactSpanLossSaid : Prop := fnExactSpanLossRow.holds Try.pinned (OpenSpec.ofChange fnExactSpanLossSpec)

/-- ITS FALSE NEIGHBOUR: 'it returns false'. Refute it at one input. -/
def fnExactSpanLossWrong : ChangeSpec := { name := "fnExactSpanLoss", fn := fun _ => fun
  | [d] => { results := [.lit (.bool false)], args := [d] }
  | _ => none }
def FnExactSpanLossWrongFalsely : Prop := fnExactSpanLossRow.holds Try.pinned (OpenSpec.ofChange fnExactSpanLossWrong)

/-- 'laws.FnExactLinearValue': WHATEVER THE INPUT: true; the input reads as it did. -/
def fnExactLinearValueSpec : ChangeSpec := { name := "fnExactLinearValue", fn := fun _ => fun
  | [d] => { results := [.lit (.bool true)], args := [d] }
  | _ => none }
def fnExactLinearValueRow : OpenClaim := { program := "ytijgfgfolkbkoaa", sum := "1b80accfee93987e6e9a5394652ce8ad55c0947bb7610423503acecfe79ae012", func := "loop.example/g00897/laws.FnExactLinearValue", spec := "fnExactLinearValue", apart := false }
def FnExactLinearValueSaid : Prop := fnExactLinearValueRow.holds Try.pinned (OpenSpec.ofChange fnExactLinearValueSpec)

/-- ITS FALSE NEIGHBOUR: 'it returns false'. Refute it at one input. -/
def fnExactLinearValueWrong : ChangeSpec := { name := "fnExactLinearValue", fn := fun _ => fun
  | [d] => { results := [.lit (.bool false)], args := [d] }
  | _ => none }
def FnExactLinearValueWrongFalsely : Prop := fnExactLinearValueRow.holds Try.pinned (OpenSpec.ofChange fnExactLinearValueWrong)

/-- 'laws.FnExactMostSpans': WHATEVER THE INPUT: true; the input reads as it did. -/
def fnExactMostSpansSpec : ChangeSpec := { name := "fnExactMostSpans", fn := fun _ => fun
  | [d1, d2, d3] => { results := [.lit (.bool true)], args := [d1, d2, d3] }
  | _ => none }
def fnExactMostSpansRow : OpenClaim := { program := "ytijgfgfolkbkoaa", sum := "1b80accfee93987e6e9a5394652ce8ad55c0947bb7610423503acecfe79ae012", func := "loop.example/g00897/laws.FnExactMostSpans", spec := "fnExactMostSpans", apart := false }
def FnExactMostSpansSaid : Prop := fnExactMostSpansRow.holds Try.pinned (OpenSpec.ofChange fnExactMostSpansSpec)

/-- ITS FALSE NEIGHBOUR: 'it returns false'. Refute it at one input. -/
def fnExactMostSpansWrong : ChangeSpec := { name := "fnExactMostSpans", fn := fun _ => fun
  | [d1, d2, d3] => { results := [.lit (.bool false)], args := [d1, d2, d3] }
  | _ => none }
def FnExactMostSpansWrongFalsely : Prop := fnExactMostSpansRow.holds Try.pinned (OpenSpec.ofChange fnExactMostSpansWrong)

/-- 'laws.FnExactLevelOf': WHATEVER THE INPUT: true; the input reads as it did. -/
def fnExactLevelOfSpec : ChangeSpec := { name := "fnExactLevelOf", fn := fun _ => fun
  | [d] => { results := [.lit (.bool true)], args := [d] }
  | _ => none }
def fnExactLevelOfRow : OpenClaim := { program := "ytijgfgfolkbkoaa", sum := "1b80accfee93987e6e9a5394652ce8ad55c0947bb7610423503acecfe79ae012", func := "loop.example/g00897/laws.FnExactLevelOf", spec := "fnExactLevelOf", apart := false }
def FnExactLevelOfSaid : Prop := fnExactLevelOfRow.holds Try.pinned (OpenSpec.ofChange fnExactLevelOfSpec)

/-- ITS FALSE NEIGHBOUR: 'it returns false'. Refute it at one input. -/
def fnExactLevelOfWrong : ChangeSpec := { name := "fnExactLevelOf", fn := fun _ => fun
  | [d] => { results := [.lit (.bool false)], args := [d] }
  | _ => none }
def FnExactLevelOfWrongFalsely : Prop := fnExactLevelOfRow.holds Try.pinned (OpenSpec.ofChange fnExactLevelOfWrong)

/-- 'laws.FnExactIsValidFrame': WHATEVER THE INPUT: true; the input reads as it did. -/
def fnExactIsValidFrameSpec : ChangeSpec := { name := "fnExactIsValidFrame", fn := fun _ => fun
  | [d] => { results := [.lit (.bool true)], args := [d] }
  | _ => none }
def fnExactIsValidFrameRow : OpenClaim := { program := "ytijgfgfolkbkoaa", sum := "1b80accfee93987e6e9a5394652ce8ad55c0947bb7610423503acecfe79ae012", func := "loop.example/g00897/laws.FnExactIsValidFrame", spec := "fnExactIsValidFrame", unfollowed := true, recurses := true, apart := false }
def FnExactIsValidFrameSaid : Prop := fnExactIsValidFrameRow.holds Try.pinned (OpenSpec.ofChange fnExactIsValidFrameSpec)

/-- ITS FALSE NEIGHBOUR: 'it returns false'. Refute it at one input. -/
def fnExactIsValidFrameWrong : ChangeSpec := { name := "fnExactIsValidFrame", fn := fun _ => fun
  | [d] => { results := [.lit (.bool false)], args := [d] }
  | _ => none }
def FnExactIsValidFrameWrongFalsely : Prop := fnExactIsValidFrameRow.holds Try.pinned (OpenSpec.ofChange fnExactIsValidFrameWrong)

/-- 'laws.FnExactJustifyBuffer': WHATEVER THE INPUT: true; the input reads as it did. -/
def fnExactJustifyBufferSpec : ChangeSpec := { name := "fnExactJustifyBuffer", fn := fun _ => fun
  | [d1, d2, d3, d4, d5] => { results := [.lit (.bool true)], args := [d1, d2, d3, d4, d5] }
  | _ => none }
def fnExactJustifyBufferRow : OpenClaim := { program := "ytijgfgfolkbkoaa", sum := "1b80accfee93987e6e9a5394652ce8ad55c0947bb7610423503acecfe79ae012", func := "loop.example/g00897/laws.FnExactJustifyBuffer", spec := "fnExactJustifyBuffer", apart := false }
def FnExactJustifyBufferSaid : Prop := fnExactJustifyBufferRow.holds Try.pinned (OpenSpec.ofChange fnExactJustifyBufferSpec)

/-- ITS FALSE NEIGHBOUR: 'it returns false'. Refute it at one input. -/
def fnExactJustifyBufferWrong : ChangeSpec := { name := "fnExactJustifyBuffer", fn := fun _ => fun
  | [d1, d2, d3, d4, d5] => { results := [.lit (.bool false)], args := [d1, d2, d3, d4, d5] }
  | _ => none }
def FnExactJustifyBufferWrongFalsely : Prop := fnExactJustifyBufferRow.holds Try.pinned (OpenSpec.ofChange fnExactJustifyBufferWrong)

/-- 'laws.FnExactCostOf': WHATEVER THE INPUT: true; the input reads as it did. -/
def fnExactCostOfSpec : ChangeSpec := { name := "fnExactCostOf", fn := fun _ => fun
  | [d1, d2] => { results := [.lit (.bool true)], args := [d1, d2] }
  | _ => none }
def fnExactCostOfRow : OpenClaim := { program := "ytijgfgfolkbkoaa", sum := "1b80accfee93987e6e9a5394652ce8ad55c0947bb7610423503acecfe79ae012", func := "loop.example/g00897/laws.FnExactCostOf", spec := "fnExactCostOf", unfollowed := true, recurses := true, apart := false }
def FnExactCostOfSaid : Prop := fnExactCostOfRow.holds Try.pinned (OpenSpec.ofChange fnExactCostOfSpec)

/-- ITS FALSE NEIGHBOUR: 'it returns false'. Refute it at one input. -/
def fnExactCostOfWrong : ChangeSpec := { name := "fnExactCostOf", fn := fun _ => fun
  | [d1, d2] => { results := [.lit (.bool false)], args := [d1, d2] }
  | _ => none }
def FnExactCostOfWrongFalsely : Prop := fnExactCostOfRow.holds Try.pinned (OpenSpec.ofChange fnExactCostOfWrong)

/-- 'laws.FnExactFrameBytes': WHATEVER THE INPUT: true; the input reads as it did. -/
def fnExactFrameBytesSpec : ChangeSpec := { name := "fnExactFrameBytes", fn := fun _ => fun
  | [d] => { results := [.lit (.bool true)], args := [d] }
  | _ => none }
def fnExactFrameBytesRow : OpenClaim := { program := "ytijgfgfolkbkoaa", sum := "1b80accfee93987e6e9a5394652ce8ad55c0947bb7610423503acecfe79ae012", func := "loop.example/g00897/laws.FnExactFrameBytes", spec := "fnExactFrameBytes", unfollowed := true, recurses := true, apart := false }
def FnExactFrameBytesSaid : Prop := fnExactFrameBytesRow.holds Try.pinned (OpenSpec.ofChange fnExactFrameBytesSpec)

/-- ITS FALSE NEIGHBOUR: 'it returns false'. Refute it at one input. -/
def fnExactFrameBytesWrong : ChangeSpec := { name := "fnExactFrameBytes", fn := fun _ => fun
  | [d] => { results := [.lit (.bool false)], args := [d] }
  | _ => none }
def FnExactFrameBytesWrongFalsely : Prop := fnExactFrameBytesRow.holds Try.pinned (OpenSpec.ofChange fnExactFrameBytesWrong)

/-- 'laws.FnExactNoiseSum': WHATEVER THE INPUT: true; the input reads as it did. -/
def fnExactNoiseSumSpec : ChangeSpec := { name := "fnExactNoiseSum", fn := fun _ => fun
  | [d] => { results := [.lit (.bool true)], args := [d] }
  | _ => none }
def fnExactNoiseSumRow : OpenClaim := { program := "ytijgfgfolkbkoaa", sum := "1b80accfee93987e6e9a5394652ce8ad55c0947bb7610423503acecfe79ae012", func := "loop.example/g00897/laws.FnExactNoiseSum", spec := "fnExactNoiseSum", apart := false }
def FnExactNoiseSumSaid : Prop := fnExactNoiseSumRow.holds Try.pinned (OpenSpec.ofChange fnExactNoiseSumSpec)

/-- ITS FALSE NEIGHBOUR: 'it returns false'. Refute it at one input. -/
def fnExactNoiseSumWrong : ChangeSpec := { name := "fnExactNoiseSum", fn := fun _ => fun
  | [d] => { results := [.lit (.bool false)], args := [d] }
  | _ => none }
def FnExactNoiseSumWrongFalsely : Prop := fnExactNoiseSumRow.holds Try.pinned (OpenSpec.ofChange fnExactNoiseSumWrong)

/-- 'laws.FnExactMissingItems': WHATEVER THE INPUT: true; the input reads as it did. -/
def fnExactMissingItemsSpec : ChangeSpec := { name := "fnExactMissingItems", fn := fun _ => fun
  | [d1, d2] => { results := [.lit (.bool true)], args := [d1, d2] }
  | _ => none }
def fnExactMissingItemsRow : OpenClaim := { program := "ytijgfgfolkbkoaa", sum := "1b80accfee93987e6e9a5394652ce8ad55c0947bb7610423503acecfe79ae012", func := "loop.example/g00897/laws.FnExactMissingItems", spec := "fnExactMissingItems", apart := false }
def FnExactMissingItemsSaid : Prop := fnExactMissingItemsRow.holds Try.pinned (OpenSpec.ofChange fnExactMissingItemsSpec)

/-- ITS FALSE NEIGHBOUR: 'it returns false'. Refute it at one input. -/
def fnExactMissingItemsWrong : ChangeSpec := { name := "fnExactMissingItems", fn := fun _ => fun
  | [d1, d2] => { results := [.lit (.bool false)], args := [d1, d2] }
  | _ => none }
def FnExactMissingItemsWrongFalsely : Prop := fnExactMissingItemsRow.holds Try.pinned (OpenSpec.ofChange fnExactMissingItemsWrong)

/-- 'laws.FnExactMergeBills': WHATEVER THE INPUT: true; the input reads as it did. -/
def fnExactMergeBillsSpec : ChangeSpec := { name := "fnExactMergeBills", fn := fun _ => fun
  | [d1, d2] => { results := [.lit (.bool true)], args := [d1, d2] }
  | _ => none }
def fnExactMergeBillsRow : OpenClaim := { program := "ytijgfgfolkbkoaa", sum := "1b80accfee93987e6e9a5394652ce8ad55c0947bb7610423503acecfe79ae012", func := "loop.example/g00897/laws.FnExactMergeBills", spec := "fnExactMergeBills", apart := false }
def FnExactMergeBillsSaid : Prop := fnExactMergeBillsRow.holds Try.pinned (OpenSpec.ofChange fnExactMergeBillsSpec)

/-- ITS FALSE NEIGHBOUR: 'it returns false'. Refute it at one input. -/
def fnExactMergeBillsWrong : ChangeSpec := { name := "fnExactMergeBills", fn := fun _ => fun
  | [d1, d2] => { results := [.lit (.bool false)], args := [d1, d2] }
  | _ => none }
def FnExactMergeBillsWrongFalsely : Prop := fnExactMergeBillsRow.holds Try.pinned (OpenSpec.ofChange fnExactMergeBillsWrong)

/-- 'laws.FnExactParseFrame': WHATEVER THE INPUT: true; the input reads as it did. -/
def fnExactParseFrameSpec : ChangeSpec := { name := "fnExactParseFrame", fn := fun _ => fun
  | [d] => { results := [.lit (.bool true)], args := [d] }
  | _ => none }
def fnExactParseFrameRow : OpenClaim := { program := "ytijgfgfolkbkoaa", sum := "1b80accfee93987e6e9a5394652ce8ad55c0947bb7610423503acecfe79ae012", func := "loop.example/g00897/laws.FnExactParseFrame", spec := "fnExactParseFrame", unfollowed := true, recurses := true, apart := false }
def FnExactParseFrameSaid : Prop := fnExactParseFrameRow.holds Try.pinned (OpenSpec.ofChange fnExactParseFrameSpec)

/-- ITS FALSE NEIGHBOUR: 'it returns false'. Refute it at one input. -/
def fnExactParseFrameWrong : ChangeSpec := { name := "fnExactParseFrame", fn := fun _ => fun
  | [d] => { results := [.lit (.bool false)], args := [d] }
  | _ => none }
def FnExactParseFrameWrongFalsely : Prop := fnExactParseFrameRow.holds Try.pinned (OpenSpec.ofChange fnExactParseFrameWrong)

/-- 'laws.FnExactFindFrames': WHATEVER THE INPUT: true; the input reads as it did. -/
def fnExactFindFramesSpec : ChangeSpec := { name := "fnExactFindFrames", fn := fun _ => fun
  | [d] => { results := [.lit (.bool true)], args := [d] }
  | _ => none }
def fnExactFindFramesRow : OpenClaim := { program := "ytijgfgfolkbkoaa", sum := "1b80accfee93987e6e9a5394652ce8ad55c0947bb7610423503acecfe79ae012", func := "loop.example/g00897/laws.FnExactFindFrames", spec := "fnExactFindFrames", unfollowed := true, recurses := true, apart := false }
def FnExactFindFramesSaid : Prop := fnExactFindFramesRow.holds Try.pinned (OpenSpec.ofChange fnExactFindFramesSpec)

/-- ITS FALSE NEIGHBOUR: 'it returns false'. Refute it at one input. -/
def fnExactFindFramesWrong : ChangeSpec := { name := "fnExactFindFrames", fn := fun _ => fun
  | [d] => { results := [.lit (.bool false)], args := [d] }
  | _ => none }
def FnExactFindFramesWrongFalsely : Prop := fnExactFindFramesRow.holds Try.pinned (OpenSpec.ofChange fnExactFindFramesWrong)

/-- 'laws.FnExactCounterGaps': WHATEVER THE INPUT: true; the input reads as it did. -/
def fnExactCounterGapsSpec : ChangeSpec := { name := "fnExactCounterGaps", fn := fun _ => fun
  | [d] => { results := [.lit (.bool true)], args := [d] }
  | _ => none }
def fnExactCounterGapsRow : OpenClaim := { program := "ytijgfgfolkbkoaa", sum := "1b80accfee93987e6e9a5394652ce8ad55c0947bb7610423503acecfe79ae012", func := "loop.example/g00897/laws.FnExactCounterGaps", spec := "fnExactCounterGaps", unfollowed := true, recurses := true, apart := false }
def FnExactCounterGapsSaid : Prop := fnExactCounterGapsRow.holds Try.pinned (OpenSpec.ofChange fnExactCounterGapsSpec)

/-- ITS FALSE NEIGHBOUR: 'it returns false'. Refute it at one input. -/
def fnExactCounterGapsWrong : ChangeSpec := { name := "fnExactCounterGaps", fn := fun _ => fun
  | [d] => { results := [.lit (.bool false)], args := [d] }
  | _ => none }
def FnExactCounterGapsWrongFalsely : Prop := fnExactCounterGapsRow.holds Try.pinned (OpenSpec.ofChange fnExactCounterGapsWrong)

/-- 'laws.FnDecibels': WHATEVER THE INPUT: true; the input reads as it did. -/
def fnDecibelsSpec : ChangeSpec := { name := "fnDecibels", fn := fun _ => fun
  | [d] => { results := [.lit (.bool true)], args := [d] }
  | _ => none }
def fnDecibelsRow : OpenClaim := { program := "ytijgfgfolkbkoaa", sum := "1b80accfee93987e6e9a5394652ce8ad55c0947bb7610423503acecfe79ae012", func := "loop.example/g00897/laws.FnDecibels", spec := "fnDecibels", apart := false }
def FnDecibelsSaid : Prop := fnDecibelsRow.holds Try.pinned (OpenSpec.ofChange fnDecibelsSpec)

/-- ITS FALSE NEIGHBOUR: 'it returns false'. Refute it at one input. -/
def fnDecibelsWrong : ChangeSpec := { name := "fnDecibels", fn := fun _ => fun
  | [d] => { results := [.lit (.bool false)], args := [d] }
  | _ => none }
def FnDecibelsWrongFalsely : Prop := fnDecibelsRow.holds Try.pinned (OpenSpec.ofChange fnDecibelsWrong)

/-- 'laws.FnExactPlaceAmplifiers': WHATEVER THE INPUT: true; the input reads as it did. -/
def fnExactPlaceAmplifiersSpec : ChangeSpec := { name := "fnExactPlaceAmplifiers", fn := fun _ => fun
  | [d1, d2, d3, d4] => { results := [.lit (.bool true)], args := [d1, d2, d3, d4] }
  | _ => none }
def fnExactPlaceAmplifiersRow : OpenClaim := { program := "ytijgfgfolkbkoaa", sum := "1b80accfee93987e6e9a5394652ce8ad55c0947bb7610423503acecfe79ae012", func := "loop.example/g00897/laws.FnExactPlaceAmplifiers", spec := "fnExactPlaceAmplifiers", unfollowed := true, recurses := true, apart := false }
def FnExactPlaceAmplifiersSaid : Prop := fnExactPlaceAmplifiersRow.holds Try.pinned (OpenSpec.ofChange fnExactPlaceAmplifiersSpec)

/-- ITS FALSE NEIGHBOUR: 'it returns false'. Refute it at one input. -/
def fnExactPlaceAmplifiersWrong : ChangeSpec := { name := "fnExactPlaceAmplifiers", fn := fun _ => fun
  | [d1, d2, d3, d4] => { results := [.lit (.bool false)], args := [d1, d2, d3, d4] }
  | _ => none }
def FnExactPlaceAmplifiersWrongFalsely : Prop := fnExactPlaceAmplifiersRow.holds Try.pinned (OpenSpec.ofChange fnExactPlaceAmplifiersWrong)

/-- 'laws.FnExactPowerMargin': WHATEVER THE INPUT: true; the input reads as it did. -/
def fnExactPowerMarginSpec : ChangeSpec := { name := "fnExactPowerMargin", fn := fun _ => fun
  | [d1, d2, d3, d4] => { results := [.lit (.bool true)], args := [d1, d2, d3, d4] }
  | _ => none }
def fnExactPowerMarginRow : OpenClaim := { program := "ytijgfgfolkbkoaa", sum := "1b80accfee93987e6e9a5394652ce8ad55c0947bb7610423503acecfe79ae012", func := "loop.example/g00897/laws.FnExactPowerMargin", spec := "fnExactPowerMargin", unfollowed := true, recurses := true, apart := false }
def FnExactPowerMarginSaid : Prop := fnExactPowerMarginRow.holds Try.pinned (OpenSpec.ofChange fnExactPowerMarginSpec)

/-- ITS FALSE NEIGHBOUR: 'it returns false'. Refute it at one input. -/
def fnExactPowerMarginWrong : ChangeSpec := { name := "fnExactPowerMargin", fn := fun _ => fun
  | [d1, d2, d3, d4] => { results := [.lit (.bool false)], args := [d1, d2, d3, d4] }
  | _ => none }
def FnExactPowerMarginWrongFalsely : Prop := fnExactPowerMarginRow.holds Try.pinned (OpenSpec.ofChange fnExactPowerMarginWrong)

/-- 'laws.FnExactWorstLevel': WHATEVER THE INPUT: true; the input reads as it did. -/
def fnExactWorstLevelSpec : ChangeSpec := { name := "fnExactWorstLevel", fn := fun _ => fun
  | [d1, d2, d3] => { results := [.lit (.bool true)], args := [d1, d2, d3] }
  | _ => none }
def fnExactWorstLevelRow : OpenClaim := { program := "ytijgfgfolkbkoaa", sum := "1b80accfee93987e6e9a5394652ce8ad55c0947bb7610423503acecfe79ae012", func := "loop.example/g00897/laws.FnExactWorstLevel", spec := "fnExactWorstLevel", unfollowed := true, recurses := true, apart := false }
def FnExactWorstLevelSaid : Prop := fnExactWorstLevelRow.holds Try.pinned (OpenSpec.ofChange fnExactWorstLevelSpec)

/-- ITS FALSE NEIGHBOUR: 'it returns false'. Refute it at one input. -/
def fnExactWorstLevelWrong : ChangeSpec := { name := "fnExactWorstLevel", fn := fun _ => fun
  | [d1, d2, d3] => { results := [.lit (.bool false)], args := [d1, d2, d3] }
  | _ => none }
def FnExactWorstLevelWrongFalsely : Prop := fnExactWorstLevelRow.holds Try.pinned (OpenSpec.ofChange fnExactWorstLevelWrong)

/-- 'laws.FnExactPowerProfile': WHATEVER THE INPUT: true; the input reads as it did. -/
def fnExactPowerProfileSpec : ChangeSpec := { name := "fnExactPowerProfile", fn := fun _ => fun
  | [d1, d2, d3] => { results := [.lit (.bool true)], args := [d1, d2, d3] }
  | _ => none }
def fnExactPowerProfileRow : OpenClaim := { program := "ytijgfgfolkbkoaa", sum := "1b80accfee93987e6e9a5394652ce8ad55c0947bb7610423503acecfe79ae012", func := "loop.example/g00897/laws.FnExactPowerProfile", spec := "fnExactPowerProfile", unfollowed := true, recurses := true, apart := false }
def FnExactPowerProfileSaid : Prop := fnExactPowerProfileRow.holds Try.pinned (OpenSpec.ofChange fnExactPowerProfileSpec)

/-- ITS FALSE NEIGHBOUR: 'it returns false'. Refute it at one input. -/
def fnExactPowerProfileWrong : ChangeSpec := { name := "fnExactPowerProfile", fn := fun _ => fun
  | [d1, d2, d3] => { results := [.lit (.bool false)], args := [d1, d2, d3] }
  | _ => none }
def FnExactPowerProfileWrongFalsely : Prop := fnExactPowerProfileRow.holds Try.pinned (OpenSpec.ofChange fnExactPowerProfileWrong)

/-- 'laws.FnPower': WHATEVER THE INPUT: true; the input reads as it did. -/
def fnPowerSpec : ChangeSpec := { name := "fnPower", fn := fun _ => fun
  | [d] => { results := [.lit (.bool true)], args := [d] }
  | _ => none }
def fnPowerRow : OpenClaim := { program := "ytijgfgfolkbkoaa", sum := "1b80accfee93987e6e9a5394652ce8ad55c0947bb7610423503acecfe79ae012", func := "loop.example/g00897/laws.FnPower", spec := "fnPower", unfollowed := true, recurses := true, apart := false }
def FnPowerSaid : Prop := fnPowerRow.holds Try.pinned (OpenSpec.ofChange fnPowerSpec)

/-- ITS FALSE NEIGHBOUR: 'it returns false'. Refute it at one input. -/
def fnPowerWrong : ChangeSpec := { name := "fnPower", fn := fun _ => fun
  | [d] => { results := [.lit (.bool false)], args := [d] }
  | _ => none }
def FnPowerWrongFalsely : Prop := fnPowerRow.holds Try.pinned (OpenSpec.ofChange fnPowerWrong)

/- THE SECOND FORM. 'bulk': how many values and letters a reading holds, each counted each time it is reached (what is shared counts as often as it is met; a slice's spare places count too). A statement '..UptoSaid' is the law's where the arguments, and the package variables that the reading takes, are together of bulk at most 1048576: NARROWER than '..Said'. Prove '..Said' where nothing that the law and all that it calls make is longer than what came in: it says more and counts as full. Else prove '..UptoSaid'. A law counts once. -/
mutual
def uptoBulk {H : Type} : DataW H → Nat
  | .lit (.string bytes) => bytes.length + 1
  | .lit _ => 1
  | .nil => 1
  | .ptr d => uptoBulk d + 1
  | .slice elems spare => uptoBulkAll elems + uptoBulkAll spare + 1
  | .agg parts => uptoBulkAll parts + 1
  | .iface _ d => uptoBulk d + 1
  | .map entries => uptoBulkEntries entries + 1
  | .held _ => 1
def uptoBulkAll {H : Type} : List (DataW H) → Nat
  | [] => 0
  | d :: r => uptoBulk d + uptoBulkAll r
def uptoBulkEntries {H : Type} : List (Lit × DataW H) → Nat
  | [] => 0
  | x :: r => uptoBulkEntry x + uptoBulkEntries r
def uptoBulkEntry {H : Type} : Lit × DataW H → Nat
  | (.string bytes, d) => bytes.length + uptoBulk d + 1
  | (_, d) => uptoBulk d + 1
 end
def uptoSmall : (H : Type) → List (DataW H) → Bool := fun _ ds => decide (uptoBulkAll ds ≤ 1048576)
def OpenSpec.upto (s : _root_.Go.ChangeSpec) : _root_.Go.OpenSpec := { _root_.Go.OpenSpec.ofChange s with cond := some uptoSmall }

/-- 'laws.FnExactMovePointer', WHERE WHAT IT READS IS OF BULK AT MOST 1048576: true; the input reads as it did. -/
def fnExactMovePointerUptoRow : OpenClaim := { program := "ytijgfgfolkbkoaa", sum := "1b80accfee93987e6e9a5394652ce8ad55c0947bb7610423503acecfe79ae012", func := "loop.example/g00897/laws.FnExactMovePointer", spec := "fnExactMovePointer", apart := false, narrowed := true }
def FnExactMovePointerUptoSaid : Prop := fnExactMovePointerUptoRow.holds Try.pinned (OpenSpec.upto fnExactMovePointerSpec)

/-- 'laws.FnExactSpanLoss', WHERE WHAT IT READS IS OF BULK AT MOST 1048576: true; the input reads as it did. -/
def fnExactSpanLossUptoRow : OpenClaim := { program := "ytijgfgfolkbkoaa", sum := "1b80accfee93987e6e9a5394652ce8ad55c0947bb7610423503acecfe79ae012", func := "loop.example/g00897/laws.FnExactSpanLoss", spec := "fnExactSpanLoss", apart := false, narrowed := true }
def FnExactSpanLossUptoSaid : Prop := fnExactSpanLossUptoRow.holds Try.pinned (OpenSpec.upto fnExactSpanLossSpec)

/-- 'laws.FnExactLinearValue', WHERE WHAT IT READS IS OF BULK AT MOST 1048576: true; the input reads as it did. -/
def fnExactLinearValueUptoRow : OpenClaim := { program := "ytijgfgfolkbkoaa", sum := "1b80accfee93987e6e9a5394652ce8ad55c0947bb7610423503acecfe79ae012", func := "loop.example/g00897/laws.FnExactLinearValue", spec := "fnExactLinearValue", apart := false, narrowed := true }
def FnExactLinearValueUptoSaid : Prop := fnExactLinearValueUptoRow.holds Try.pinned (OpenSpec.upto fnExactLinearValueSpec)

/-- 'laws.FnExactMostSpans', WHERE WHAT IT READS IS OF BULK AT MOST 1048576: true; the input reads as it did. -/
def fnExactMostSpansUptoRow : OpenClaim := { program := "ytijgfgfolkbkoaa", sum := "1b80accfee93987e6e9a5394652ce8ad55c0947bb7610423503acecfe79ae012", func := "loop.example/g00897/laws.FnExactMostSpans", spec := "fnExactMostSpans", apart := false, narrowed := true }
def FnExactMostSpansUptoSaid : Prop := fnExactMostSpansUptoRow.holds Try.pinned (OpenSpec.upto fnExactMostSpansSpec)

/-- 'laws.FnExactLevelOf', WHERE WHAT IT READS IS OF BULK AT MOST 1048576: true; the input reads as it did. -/
def fnExactLevelOfUptoRow : OpenClaim := { program := "ytijgfgfolkbkoaa", sum := "1b80accfee93987e6e9a5394652ce8ad55c0947bb7610423503acecfe79ae012", func := "loop.example/g00897/laws.FnExactLevelOf", spec := "fnExactLevelOf", apart := false, narrowed := true }
def FnExactLevelOfUptoSaid : Prop := fnExactLevelOfUptoRow.holds Try.pinned (OpenSpec.upto fnExactLevelOfSpec)

/-- 'laws.FnExactIsValidFrame', WHERE WHAT IT READS IS OF BULK AT MOST 1048576: true; the input reads as it did. -/
def fnExactIsValidFrameUptoRow : OpenClaim := { program := "ytijgfgfolkbkoaa", sum := "1b80accfee93987e6e9a5394652ce8ad55c0947bb7610423503acecfe79ae012", func := "loop.example/g00897/laws.FnExactIsValidFrame", spec := "fnExactIsValidFrame", unfollowed := true, recurses := true, apart := false, narrowed := true }
def FnExactIsValidFrameUptoSaid : Prop := fnExactIsValidFrameUptoRow.holds Try.pinned (OpenSpec.upto fnExactIsValidFrameSpec)

/-- 'laws.FnExactJustifyBuffer', WHERE WHAT IT READS IS OF BULK AT MOST 1048576: true; the input reads as it did. -/
def fnExactJustifyBufferUptoRow : OpenClaim := { program := "ytijgfgfolkbkoaa", sum := "1b80accfee93987e6e9a5394652ce8ad55c0947bb7610423503acecfe79ae012", func := "loop.example/g00897/laws.FnExactJustifyBuffer", spec := "fnExactJustifyBuffer", apart := false, narrowed := true }
def FnExactJustifyBufferUptoSaid : Prop := fnExactJustifyBufferUptoRow.holds Try.pinned (OpenSpec.upto fnExactJustifyBufferSpec)

/-- 'laws.FnExactCostOf', WHERE WHAT IT READS IS OF BULK AT MOST 1048576: true; the input reads as it did. -/
def fnExactCostOfUptoRow : OpenClaim := { program := "ytijgfgfolkbkoaa", sum := "1b80accfee93987e6e9a5394652ce8ad55c0947bb7610423503acecfe79ae012", func := "loop.example/g00897/laws.FnExactCostOf", spec := "fnExactCostOf", unfollowed := true, recurses := true, apart := false, narrowed := true }
def FnExactCostOfUptoSaid : Prop := fnExactCostOfUptoRow.holds Try.pinned (OpenSpec.upto fnExactCostOfSpec)

/-- 'laws.FnExactFrameBytes', WHERE WHAT IT READS IS OF BULK AT MOST 1048576: true; the input reads as it did. -/
def fnExactFrameBytesUptoRow : OpenClaim := { program := "ytijgfgfolkbkoaa", sum := "1b80accfee93987e6e9a5394652ce8ad55c0947bb7610423503acecfe79ae012", func := "loop.example/g00897/laws.FnExactFrameBytes", spec := "fnExactFrameBytes", unfollowed := true, recurses := true, apart := false, narrowed := true }
def FnExactFrameBytesUptoSaid : Prop := fnExactFrameBytesUptoRow.holds Try.pinned (OpenSpec.upto fnExactFrameBytesSpec)

/-- 'laws.FnExactNoiseSum', WHERE WHAT IT READS IS OF BULK AT MOST 1048576: true; the input reads as it did. -/
def fnExactNoiseSumUptoRow : OpenClaim := { program := "ytijgfgfolkbkoaa", sum := "1b80accfee93987e6e9a5394652ce8ad55c0947bb7610423503acecfe79ae012", func := "loop.example/g00897/laws.FnExactNoiseSum", spec := "fnExactNoiseSum", apart := false, narrowed := true }
def FnExactNoiseSumUptoSaid : Prop := fnExactNoiseSumUptoRow.holds Try.pinned (OpenSpec.upto fnExactNoiseSumSpec)

/-- 'laws.FnExactMissingItems', WHERE WHAT IT READS IS OF BULK AT MOST 1048576: true; the input reads as it did. -/
def fnExactMissingItemsUptoRow : OpenClaim := { program := "ytijgfgfolkbkoaa", sum := "1b80accfee93987e6e9a5394652ce8ad55c0947bb7610423503acecfe79ae012", func := "loop.example/g00897/laws.FnExactMissingItems", spec := "fnExactMissingItems", apart := false, narrowed := true }
def FnExactMissingItemsUptoSaid : Prop := fnExactMissingItemsUptoRow.holds Try.pinned (OpenSpec.upto fnExactMissingItemsSpec)

/-- 'laws.FnExactMergeBills', WHERE WHAT IT READS IS OF BULK AT MOST 1048576: true; the input reads as it did. -/
def fnExactMergeBillsUptoRow : OpenClaim := { program := "ytijgfgfolkbkoaa", sum := "1b80accfee93987e6e9a5394652ce8ad55c0947bb7610423503acecfe79ae012", func := "loop.example/g00897/laws.FnExactMergeBills", spec := "fnExactMergeBills", apart := false, narrowed := true }
def FnExactMergeBillsUptoSaid : Prop := fnExactMergeBillsUptoRow.holds Try.pinned (OpenSpec.upto fnExactMergeBillsSpec)

/-- 'laws.FnExactParseFrame', WHERE WHAT IT READS IS OF BULK AT MOST 1048576: true; the input reads as it did. -/
def fnExactParseFrameUptoRow : OpenClaim := { program := "ytijgfgfolkbkoaa", sum := "1b80accfee93987e6e9a5394652ce8ad55c0947bb7610423503acecfe79ae012", func := "loop.example/g00897/laws.FnExactParseFrame", spec := "fnExactParseFrame", unfollowed := true, recurses := true, apart := false, narrowed := true }
def FnExactParseFrameUptoSaid : Prop := fnExactParseFrameUptoRow.holds Try.pinned (OpenSpec.upto fnExactParseFrameSpec)

/-- 'laws.FnExactFindFrames', WHERE WHAT IT READS IS OF BULK AT MOST 1048576: true; the input reads as it did. -/
def fnExactFindFramesUptoRow : OpenClaim := { program := "ytijgfgfolkbkoaa", sum := "1b80accfee93987e6e9a5394652ce8ad55c0947bb7610423503acecfe79ae012", func := "loop.example/g00897/laws.FnExactFindFrames", spec := "fnExactFindFrames", unfollowed := true, recurses := true, apart := false, narrowed := true }
def FnExactFindFramesUptoSaid : Prop := fnExactFindFramesUptoRow.holds Try.pinned (OpenSpec.upto fnExactFindFramesSpec)

/-- 'laws.FnExactCounterGaps', WHERE WHAT IT READS IS OF BULK AT MOST 1048576: true; the input reads as it did. -/
def fnExactCounterGapsUptoRow : OpenClaim := { program := "ytijgfgfolkbkoaa", sum := "1b80accfee93987e6e9a5394652ce8ad55c0947bb7610423503acecfe79ae012", func := "loop.example/g00897/laws.FnExactCounterGaps", spec := "fnExactCounterGaps", unfollowed := true, recurses := true, apart := false, narrowed := true }
def FnExactCounterGapsUptoSaid : Prop := fnExactCounterGapsUptoRow.holds Try.pinned (OpenSpec.upto fnExactCounterGapsSpec)

/-- 'laws.FnDecibels', WHERE WHAT IT READS IS OF BULK AT MOST 1048576: true; the input reads as it did. -/
def fnDecibelsUptoRow : OpenClaim := { program := "ytijgfgfolkbkoaa", sum := "1b80accfee93987e6e9a5394652ce8ad55c0947bb7610423503acecfe79ae012", func := "loop.example/g00897/laws.FnDecibels", spec := "fnDecibels", apart := false, narrowed := true }
def FnDecibelsUptoSaid : Prop := fnDecibelsUptoRow.holds Try.pinned (OpenSpec.upto fnDecibelsSpec)

/-- 'laws.FnExactPlaceAmplifiers', WHERE WHAT IT READS IS OF BULK AT MOST 1048576: true; the input reads as it did. -/
def fnExactPlaceAmplifiersUptoRow : OpenClaim := { program := "ytijgfgfolkbkoaa", sum := "1b80accfee93987e6e9a5394652ce8ad55c0947bb7610423503acecfe79ae012", func := "loop.example/g00897/laws.FnExactPlaceAmplifiers", spec := "fnExactPlaceAmplifiers", unfollowed := true, recurses := true, apart := false, narrowed := true }
def FnExactPlaceAmplifiersUptoSaid : Prop := fnExactPlaceAmplifiersUptoRow.holds Try.pinned (OpenSpec.upto fnExactPlaceAmplifiersSpec)

/-- 'laws.FnExactPowerMargin', WHERE WHAT IT READS IS OF BULK AT MOST 1048576: true; the input reads as it did. -/
def fnExactPowerMarginUptoRow : OpenClaim := { program := "ytijgfgfolkbkoaa", sum := "1b80accfee93987e6e9a5394652ce8ad55c0947bb7610423503acecfe79ae012", func := "loop.example/g00897/laws.FnExactPowerMargin", spec := "fnExactPowerMargin", unfollowed := true, recurses := true, apart := false, narrowed := true }
def FnExactPowerMarginUptoSaid : Prop := fnExactPowerMarginUptoRow.holds Try.pinned (OpenSpec.upto fnExactPowerMarginSpec)

/-- 'laws.FnExactWorstLevel', WHERE WHAT IT READS IS OF BULK AT MOST 1048576: true; the input reads as it did. -/
def fnExactWorstLevelUptoRow : OpenClaim := { program := "ytijgfgfolkbkoaa", sum := "1b80accfee93987e6e9a5394652ce8ad55c0947bb7610423503acecfe79ae012", func := "loop.example/g00897/laws.FnExactWorstLevel", spec := "fnExactWorstLevel", unfollowed := true, recurses := true, apart := false, narrowed := true }
def FnExactWorstLevelUptoSaid : Prop := fnExactWorstLevelUptoRow.holds Try.pinned (OpenSpec.upto fnExactWorstLevelSpec)

/-- 'laws.FnExactPowerProfile', WHERE WHAT IT READS IS OF BULK AT MOST 1048576: true; the input reads as it did. -/
def fnExactPowerProfileUptoRow : OpenClaim := { program := "ytijgfgfolkbkoaa", sum := "1b80accfee93987e6e9a5394652ce8ad55c0947bb7610423503acecfe79ae012", func := "loop.example/g00897/laws.FnExactPowerProfile", spec := "fnExactPowerProfile", unfollowed := true, recurses := true, apart := false, narrowed := true }
def FnExactPowerProfileUptoSaid : Prop := fnExactPowerProfileUptoRow.holds Try.pinned (OpenSpec.upto fnExactPowerProfileSpec)

/-- 'laws.FnPower', WHERE WHAT IT READS IS OF BULK AT MOST 1048576: true; the input reads as it did. -/
def fnPowerUptoRow : OpenClaim := { program := "ytijgfgfolkbkoaa", sum := "1b80accfee93987e6e9a5394652ce8ad55c0947bb7610423503acecfe79ae012", func := "loop.example/g00897/laws.FnPower", spec := "fnPower", unfollowed := true, recurses := true, apart := false, narrowed := true }
def FnPowerUptoSaid : Prop := fnPowerUptoRow.holds Try.pinned (OpenSpec.upto fnPowerSpec)

end Rows
end Go.Proofs.Ytijgfgfolkbkoaa
