/-
  No cell of these rows narrows 'for every input' (looked for: loops, veiled, ifaces, maps, wideKeys, modest, calm, conditions, laid).
  DERIVED. THE GIVEN ROWS OF THIS SEAT. 12 by the template 'for every input the law returns true; each argument reads behind the call as it read before'; 0 by the template 'total and deterministic' (their statements: YtokhhjepjbhhpaaGreatTotals.lean).
  GIVEN WITH THE SEED: the statements are not yours to turn. If you find one false, say at which input.
  Laid BY PROGRAM, IN A SANDBOX (cutbox-rows.mjs): the forced cells as the released guide's own fill.sh prints them over the translation 012f72038ede0662… (all of the seat's roots in one cut). By AI agents, Wed Nov 11 2026. No macro, syntax, notation, axiom, sorry.
-/
import Derived.Test.YtokhhjepjbhhpaaGreatChecked
import GoSem.Claim
import GoSem.ClaimJoined
import GoSem.ClaimMapViews
import Derived.JoinedTies
import Derived.KernelRfl
namespace Go.Proofs.YtokhhjepjbhhpaaGreat
/- THE CELL 'sum', in the pinned program and in every row, IS THE sha256 OF THE DUMP (.gsa) THAT YtokhhjepjbhhpaaGreatProg.lean LOADS. Nothing in Lean hashes anything: it is a label: what it is worth is what the hold of that sum in a sandbox is worth. -/
noncomputable def Tryz.pinned : Pinned := { name := "ytokhhjepjbhhpaagreat", sum := "012f72038ede0662baab3235517bdb115b278de44d4b40a196bb4bd4005c3b46", checked := Tryz.checked }
namespace Rows
def none {H : Type} : Left H := { results := [], args := [] }

/-- 'laws.FnExactLowestFirst': WHATEVER THE INPUT: true; the input reads as it did. -/
def fnExactLowestFirstSpec : ChangeSpec := { name := "fnExactLowestFirst", fn := fun _ => fun
  | [d1, d2, d3] => { results := [.lit (.bool true)], args := [d1, d2, d3] }
  | _ => none }
def fnExactLowestFirstRow : OpenClaim := { program := "ytokhhjepjbhhpaagreat", sum := "012f72038ede0662baab3235517bdb115b278de44d4b40a196bb4bd4005c3b46", func := "loop.example/g00897/laws.FnExactLowestFirst", spec := "fnExactLowestFirst", unfollowed := true, recurses := true, apart := false }
def FnExactLowestFirstSaid : Prop := fnExactLowestFirstRow.holds Tryz.pinned (OpenSpec.ofChange fnExactLowestFirstSpec)

/-- ITS FALSE NEIGHBOUR: 'it returns false'. Refute it at one input. -/
def fnExactLowestFirstWrong : ChangeSpec := { name := "fnExactLowestFirst", fn := fun _ => fun
  | [d1, d2, d3] => { results := [.lit (.bool false)], args := [d1, d2, d3] }
  | _ => none }
def FnExactLowestFirstWrongFalsely : Prop := fnExactLowestFirstRow.holds Tryz.pinned (OpenSpec.ofChange fnExactLowestFirstWrong)

/-- 'laws.FnExactIsCompact': WHATEVER THE INPUT: true; the input reads as it did. -/
def fnExactIsCompactSpec : ChangeSpec := { name := "fnExactIsCompact", fn := fun _ => fun
  | [d1, d2] => { results := [.lit (.bool true)], args := [d1, d2] }
  | _ => none }
def fnExactIsCompactRow : OpenClaim := { program := "ytokhhjepjbhhpaagreat", sum := "012f72038ede0662baab3235517bdb115b278de44d4b40a196bb4bd4005c3b46", func := "loop.example/g00897/laws.FnExactIsCompact", spec := "fnExactIsCompact", unfollowed := true, recurses := true, apart := false }
def FnExactIsCompactSaid : Prop := fnExactIsCompactRow.holds Tryz.pinned (OpenSpec.ofChange fnExactIsCompactSpec)

/-- ITS FALSE NEIGHBOUR: 'it returns false'. Refute it at one input. -/
def fnExactIsCompactWrong : ChangeSpec := { name := "fnExactIsCompact", fn := fun _ => fun
  | [d1, d2] => { results := [.lit (.bool false)], args := [d1, d2] }
  | _ => none }
def FnExactIsCompactWrongFalsely : Prop := fnExactIsCompactRow.holds Tryz.pinned (OpenSpec.ofChange fnExactIsCompactWrong)

/-- 'laws.FnExactFragmentationOf': WHATEVER THE INPUT: true; the input reads as it did. -/
def fnExactFragmentationOfSpec : ChangeSpec := { name := "fnExactFragmentationOf", fn := fun _ => fun
  | [d] => { results := [.lit (.bool true)], args := [d] }
  | _ => none }
def fnExactFragmentationOfRow : OpenClaim := { program := "ytokhhjepjbhhpaagreat", sum := "012f72038ede0662baab3235517bdb115b278de44d4b40a196bb4bd4005c3b46", func := "loop.example/g00897/laws.FnExactFragmentationOf", spec := "fnExactFragmentationOf", unfollowed := true, recurses := true, apart := false }
def FnExactFragmentationOfSaid : Prop := fnExactFragmentationOfRow.holds Tryz.pinned (OpenSpec.ofChange fnExactFragmentationOfSpec)

/-- ITS FALSE NEIGHBOUR: 'it returns false'. Refute it at one input. -/
def fnExactFragmentationOfWrong : ChangeSpec := { name := "fnExactFragmentationOf", fn := fun _ => fun
  | [d] => { results := [.lit (.bool false)], args := [d] }
  | _ => none }
def FnExactFragmentationOfWrongFalsely : Prop := fnExactFragmentationOfRow.holds Tryz.pinned (OpenSpec.ofChange fnExactFragmentationOfWrong)

/-- 'laws.FnExactDefragStep': WHATEVER THE INPUT: true; the input reads as it did. -/
def fnExactDefragStepSpec : ChangeSpec := { name := "fnExactDefragStep", fn := fun _ => fun
  | [d1, d2] => { results := [.lit (.bool true)], args := [d1, d2] }
  | _ => none }
def fnExactDefragStepRow : OpenClaim := { program := "ytokhhjepjbhhpaagreat", sum := "012f72038ede0662baab3235517bdb115b278de44d4b40a196bb4bd4005c3b46", func := "loop.example/g00897/laws.FnExactDefragStep", spec := "fnExactDefragStep", unfollowed := true, recurses := true, apart := false }
def FnExactDefragStepSaid : Prop := fnExactDefragStepRow.holds Tryz.pinned (OpenSpec.ofChange fnExactDefragStepSpec)

/-- ITS FALSE NEIGHBOUR: 'it returns false'. Refute it at one input. -/
def fnExactDefragStepWrong : ChangeSpec := { name := "fnExactDefragStep", fn := fun _ => fun
  | [d1, d2] => { results := [.lit (.bool false)], args := [d1, d2] }
  | _ => none }
def FnExactDefragStepWrongFalsely : Prop := fnExactDefragStepRow.holds Tryz.pinned (OpenSpec.ofChange fnExactDefragStepWrong)

/-- 'laws.FnExactDefragment': WHATEVER THE INPUT: true; the input reads as it did. -/
def fnExactDefragmentSpec : ChangeSpec := { name := "fnExactDefragment", fn := fun _ => fun
  | [d1, d2, d3] => { results := [.lit (.bool true)], args := [d1, d2, d3] }
  | _ => none }
def fnExactDefragmentRow : OpenClaim := { program := "ytokhhjepjbhhpaagreat", sum := "012f72038ede0662baab3235517bdb115b278de44d4b40a196bb4bd4005c3b46", func := "loop.example/g00897/laws.FnExactDefragment", spec := "fnExactDefragment", unfollowed := true, recurses := true, apart := false }
def FnExactDefragmentSaid : Prop := fnExactDefragmentRow.holds Tryz.pinned (OpenSpec.ofChange fnExactDefragmentSpec)

/-- ITS FALSE NEIGHBOUR: 'it returns false'. Refute it at one input. -/
def fnExactDefragmentWrong : ChangeSpec := { name := "fnExactDefragment", fn := fun _ => fun
  | [d1, d2, d3] => { results := [.lit (.bool false)], args := [d1, d2, d3] }
  | _ => none }
def FnExactDefragmentWrongFalsely : Prop := fnExactDefragmentRow.holds Tryz.pinned (OpenSpec.ofChange fnExactDefragmentWrong)

/-- 'laws.FnExactBillOf': WHATEVER THE INPUT: true; the input reads as it did. -/
def fnExactBillOfSpec : ChangeSpec := { name := "fnExactBillOf", fn := fun _ => fun
  | [d1, d2, d3] => { results := [.lit (.bool true)], args := [d1, d2, d3] }
  | _ => none }
def fnExactBillOfRow : OpenClaim := { program := "ytokhhjepjbhhpaagreat", sum := "012f72038ede0662baab3235517bdb115b278de44d4b40a196bb4bd4005c3b46", func := "loop.example/g00897/laws.FnExactBillOf", spec := "fnExactBillOf", unfollowed := true, recurses := true, apart := false }
def FnExactBillOfSaid : Prop := fnExactBillOfRow.holds Tryz.pinned (OpenSpec.ofChange fnExactBillOfSpec)

/-- ITS FALSE NEIGHBOUR: 'it returns false'. Refute it at one input. -/
def fnExactBillOfWrong : ChangeSpec := { name := "fnExactBillOf", fn := fun _ => fun
  | [d1, d2, d3] => { results := [.lit (.bool false)], args := [d1, d2, d3] }
  | _ => none }
def FnExactBillOfWrongFalsely : Prop := fnExactBillOfRow.holds Tryz.pinned (OpenSpec.ofChange fnExactBillOfWrong)

/-- 'laws.FnExactLowestHeight': WHATEVER THE INPUT: true; the input reads as it did. -/
def fnExactLowestHeightSpec : ChangeSpec := { name := "fnExactLowestHeight", fn := fun _ => fun
  | [d] => { results := [.lit (.bool true)], args := [d] }
  | _ => none }
def fnExactLowestHeightRow : OpenClaim := { program := "ytokhhjepjbhhpaagreat", sum := "012f72038ede0662baab3235517bdb115b278de44d4b40a196bb4bd4005c3b46", func := "loop.example/g00897/laws.FnExactLowestHeight", spec := "fnExactLowestHeight", unfollowed := true, recurses := true, apart := false }
def FnExactLowestHeightSaid : Prop := fnExactLowestHeightRow.holds Tryz.pinned (OpenSpec.ofChange fnExactLowestHeightSpec)

/-- ITS FALSE NEIGHBOUR: 'it returns false'. Refute it at one input. -/
def fnExactLowestHeightWrong : ChangeSpec := { name := "fnExactLowestHeight", fn := fun _ => fun
  | [d] => { results := [.lit (.bool false)], args := [d] }
  | _ => none }
def FnExactLowestHeightWrongFalsely : Prop := fnExactLowestHeightRow.holds Tryz.pinned (OpenSpec.ofChange fnExactLowestHeightWrong)

/-- 'laws.FnExactCompactPlan': WHATEVER THE INPUT: true; the input reads as it did. -/
def fnExactCompactPlanSpec : ChangeSpec := { name := "fnExactCompactPlan", fn := fun _ => fun
  | [d] => { results := [.lit (.bool true)], args := [d] }
  | _ => none }
def fnExactCompactPlanRow : OpenClaim := { program := "ytokhhjepjbhhpaagreat", sum := "012f72038ede0662baab3235517bdb115b278de44d4b40a196bb4bd4005c3b46", func := "loop.example/g00897/laws.FnExactCompactPlan", spec := "fnExactCompactPlan", unfollowed := true, recurses := true, apart := false }
def FnExactCompactPlanSaid : Prop := fnExactCompactPlanRow.holds Tryz.pinned (OpenSpec.ofChange fnExactCompactPlanSpec)

/-- ITS FALSE NEIGHBOUR: 'it returns false'. Refute it at one input. -/
def fnExactCompactPlanWrong : ChangeSpec := { name := "fnExactCompactPlan", fn := fun _ => fun
  | [d] => { results := [.lit (.bool false)], args := [d] }
  | _ => none }
def FnExactCompactPlanWrongFalsely : Prop := fnExactCompactPlanRow.holds Tryz.pinned (OpenSpec.ofChange fnExactCompactPlanWrong)

/-- 'laws.FnExactPlanDifference': WHATEVER THE INPUT: true; the input reads as it did. -/
def fnExactPlanDifferenceSpec : ChangeSpec := { name := "fnExactPlanDifference", fn := fun _ => fun
  | [d1, d2] => { results := [.lit (.bool true)], args := [d1, d2] }
  | _ => none }
def fnExactPlanDifferenceRow : OpenClaim := { program := "ytokhhjepjbhhpaagreat", sum := "012f72038ede0662baab3235517bdb115b278de44d4b40a196bb4bd4005c3b46", func := "loop.example/g00897/laws.FnExactPlanDifference", spec := "fnExactPlanDifference", unfollowed := true, recurses := true, apart := false }
def FnExactPlanDifferenceSaid : Prop := fnExactPlanDifferenceRow.holds Tryz.pinned (OpenSpec.ofChange fnExactPlanDifferenceSpec)

/-- ITS FALSE NEIGHBOUR: 'it returns false'. Refute it at one input. -/
def fnExactPlanDifferenceWrong : ChangeSpec := { name := "fnExactPlanDifference", fn := fun _ => fun
  | [d1, d2] => { results := [.lit (.bool false)], args := [d1, d2] }
  | _ => none }
def FnExactPlanDifferenceWrongFalsely : Prop := fnExactPlanDifferenceRow.holds Tryz.pinned (OpenSpec.ofChange fnExactPlanDifferenceWrong)

/-- 'laws.FnExactStartChange': WHATEVER THE INPUT: true; the input reads as it did. -/
def fnExactStartChangeSpec : ChangeSpec := { name := "fnExactStartChange", fn := fun _ => fun
  | [d1, d2] => { results := [.lit (.bool true)], args := [d1, d2] }
  | _ => none }
def fnExactStartChangeRow : OpenClaim := { program := "ytokhhjepjbhhpaagreat", sum := "012f72038ede0662baab3235517bdb115b278de44d4b40a196bb4bd4005c3b46", func := "loop.example/g00897/laws.FnExactStartChange", spec := "fnExactStartChange", unfollowed := true, recurses := true, apart := false }
def FnExactStartChangeSaid : Prop := fnExactStartChangeRow.holds Tryz.pinned (OpenSpec.ofChange fnExactStartChangeSpec)

/-- ITS FALSE NEIGHBOUR: 'it returns false'. Refute it at one input. -/
def fnExactStartChangeWrong : ChangeSpec := { name := "fnExactStartChange", fn := fun _ => fun
  | [d1, d2] => { results := [.lit (.bool false)], args := [d1, d2] }
  | _ => none }
def FnExactStartChangeWrongFalsely : Prop := fnExactStartChangeRow.holds Tryz.pinned (OpenSpec.ofChange fnExactStartChangeWrong)

/-- 'laws.FnExactIsHitless': WHATEVER THE INPUT: true; the input reads as it did. -/
def fnExactIsHitlessSpec : ChangeSpec := { name := "fnExactIsHitless", fn := fun _ => fun
  | [d1, d2] => { results := [.lit (.bool true)], args := [d1, d2] }
  | _ => none }
def fnExactIsHitlessRow : OpenClaim := { program := "ytokhhjepjbhhpaagreat", sum := "012f72038ede0662baab3235517bdb115b278de44d4b40a196bb4bd4005c3b46", func := "loop.example/g00897/laws.FnExactIsHitless", spec := "fnExactIsHitless", inPlace := ["slices.overlaps[loop.example/g00897/impl.Light]"], unfollowed := true, recurses := true, apart := false }
def FnExactIsHitlessSaid : Prop := fnExactIsHitlessRow.holds Tryz.pinned (OpenSpec.ofChange fnExactIsHitlessSpec)

/-- ITS FALSE NEIGHBOUR: 'it returns false'. Refute it at one input. -/
def fnExactIsHitlessWrong : ChangeSpec := { name := "fnExactIsHitless", fn := fun _ => fun
  | [d1, d2] => { results := [.lit (.bool false)], args := [d1, d2] }
  | _ => none }
def FnExactIsHitlessWrongFalsely : Prop := fnExactIsHitlessRow.holds Tryz.pinned (OpenSpec.ofChange fnExactIsHitlessWrong)

/-- 'laws.FnExactIsValidChange': WHATEVER THE INPUT: true; the input reads as it did. -/
def fnExactIsValidChangeSpec : ChangeSpec := { name := "fnExactIsValidChange", fn := fun _ => fun
  | [d] => { results := [.lit (.bool true)], args := [d] }
  | _ => none }
def fnExactIsValidChangeRow : OpenClaim := { program := "ytokhhjepjbhhpaagreat", sum := "012f72038ede0662baab3235517bdb115b278de44d4b40a196bb4bd4005c3b46", func := "loop.example/g00897/laws.FnExactIsValidChange", spec := "fnExactIsValidChange", inPlace := ["slices.overlaps[loop.example/g00897/impl.Light]"], unfollowed := true, recurses := true, apart := false }
def FnExactIsValidChangeSaid : Prop := fnExactIsValidChangeRow.holds Tryz.pinned (OpenSpec.ofChange fnExactIsValidChangeSpec)

/-- ITS FALSE NEIGHBOUR: 'it returns false'. Refute it at one input. -/
def fnExactIsValidChangeWrong : ChangeSpec := { name := "fnExactIsValidChange", fn := fun _ => fun
  | [d] => { results := [.lit (.bool false)], args := [d] }
  | _ => none }
def FnExactIsValidChangeWrongFalsely : Prop := fnExactIsValidChangeRow.holds Tryz.pinned (OpenSpec.ofChange fnExactIsValidChangeWrong)

/- THE SECOND FORM. 'bulk': how many values and letters a reading holds, each counted each time it is reached (what is shared counts as often as it is met; a slice's spare places count too). A statement '..UptoSaid' is the law's where the arguments, and the package variables that the reading takes, are together of bulk at most 1048576: NARROWER than '..Said'. Prove '..Said' where nothing that the law and all that it calls make is longer than what came in: it says more and counts as full. Else prove '..UptoSaid'. A law counts once. -/
mutual
def uptoBulk {H : Type} : DataW H → Nat
  | .lit (.string bytes) => bytes.length + 1
  | .lit _ => 1
  | .nil => 1
  | .ptr d => uptoBulk d + 1
  | .slice elems spare => uptoBulkAll elems + uptoBulkAll spare + 1
  | .agg parts => uptoBulkAll parts + 1
  | .iface _ d => uptoBulk d + 1
  | .map entries => uptoBulkEntries entries + 1
  | .held _ => 1
def uptoBulkAll {H : Type} : List (DataW H) → Nat
  | [] => 0
  | d :: r => uptoBulk d + uptoBulkAll r
def uptoBulkEntries {H : Type} : List (Lit × DataW H) → Nat
  | [] => 0
  | x :: r => uptoBulkEntry x + uptoBulkEntries r
def uptoBulkEntry {H : Type} : Lit × DataW H → Nat
  | (.string bytes, d) => bytes.length + uptoBulk d + 1
  | (_, d) => uptoBulk d + 1
 end
def uptoSmall : (H : Type) → List (DataW H) → Bool := fun _ ds => decide (uptoBulkAll ds ≤ 1048576)
def OpenSpec.upto (s : _root_.Go.ChangeSpec) : _root_.Go.OpenSpec := { _root_.Go.OpenSpec.ofChange s with cond := some uptoSmall }

/-- 'laws.FnExactLowestFirst', WHERE WHAT IT READS IS OF BULK AT MOST 1048576: true; the input reads as it did. -/
def fnExactLowestFirstUptoRow : OpenClaim := { program := "ytokhhjepjbhhpaagreat", sum := "012f72038ede0662baab3235517bdb115b278de44d4b40a196bb4bd4005c3b46", func := "loop.example/g00897/laws.FnExactLowestFirst", spec := "fnExactLowestFirst", unfollowed := true, recurses := true, apart := false, narrowed := true }
def FnExactLowestFirstUptoSaid : Prop := fnExactLowestFirstUptoRow.holds Tryz.pinned (OpenSpec.upto fnExactLowestFirstSpec)

/-- 'laws.FnExactIsCompact', WHERE WHAT IT READS IS OF BULK AT MOST 1048576: true; the input reads as it did. -/
def fnExactIsCompactUptoRow : OpenClaim := { program := "ytokhhjepjbhhpaagreat", sum := "012f72038ede0662baab3235517bdb115b278de44d4b40a196bb4bd4005c3b46", func := "loop.example/g00897/laws.FnExactIsCompact", spec := "fnExactIsCompact", unfollowed := true, recurses := true, apart := false, narrowed := true }
def FnExactIsCompactUptoSaid : Prop := fnExactIsCompactUptoRow.holds Tryz.pinned (OpenSpec.upto fnExactIsCompactSpec)

/-- 'laws.FnExactFragmentationOf', WHERE WHAT IT READS IS OF BULK AT MOST 1048576: true; the input reads as it did. -/
def fnExactFragmentationOfUptoRow : OpenClaim := { program := "ytokhhjepjbhhpaagreat", sum := "012f72038ede0662baab3235517bdb115b278de44d4b40a196bb4bd4005c3b46", func := "loop.example/g00897/laws.FnExactFragmentationOf", spec := "fnExactFragmentationOf", unfollowed := true, recurses := true, apart := false, narrowed := true }
def FnExactFragmentationOfUptoSaid : Prop := fnExactFragmentationOfUptoRow.holds Tryz.pinned (OpenSpec.upto fnExactFragmentationOfSpec)

/-- 'laws.FnExactDefragStep', WHERE WHAT IT READS IS OF BULK AT MOST 1048576: true; the input reads as it did. -/
def fnExactDefragStepUptoRow : OpenClaim := { program := "ytokhhjepjbhhpaagreat", sum := "012f72038ede0662baab3235517bdb115b278de44d4b40a196bb4bd4005c3b46", func := "loop.example/g00897/laws.FnExactDefragStep", spec := "fnExactDefragStep", unfollowed := true, recurses := true, apart := false, narrowed := true }
def FnExactDefragStepUptoSaid : Prop := fnExactDefragStepUptoRow.holds Tryz.pinned (OpenSpec.upto fnExactDefragStepSpec)

/-- 'laws.FnExactDefragment', WHERE WHAT IT READS IS OF BULK AT MOST 1048576: true; the input reads as it did. -/
def fnExactDefragmentUptoRow : OpenClaim := { program := "ytokhhjepjbhhpaagreat", sum := "012f72038ede0662baab3235517bdb115b278de44d4b40a196bb4bd4005c3b46", func := "loop.example/g00897/laws.FnExactDefragment", spec := "fnExactDefragment", unfollowed := true, recurses := true, apart := false, narrowed := true }
def FnExactDefragmentUptoSaid : Prop := fnExactDefragmentUptoRow.holds Tryz.pinned (OpenSpec.upto fnExactDefragmentSpec)

/-- 'laws.FnExactBillOf', WHERE WHAT IT READS IS OF BULK AT MOST 1048576: true; the input reads as it did. -/
def fnExactBillOfUptoRow : OpenClaim := { program := "ytokhhjepjbhhpaagreat", sum := "012f72038ede0662baab3235517bdb115b278de44d4b40a196bb4bd4005c3b46", func := "loop.example/g00897/laws.FnExactBillOf", spec := "fnExactBillOf", unfollowed := true, recurses := true, apart := false, narrowed := true }
def FnExactBillOfUptoSaid : Prop := fnExactBillOfUptoRow.holds Tryz.pinned (OpenSpec.upto fnExactBillOfSpec)

/-- 'laws.FnExactLowestHeight', WHERE WHAT IT READS IS OF BULK AT MOST 1048576: true; the input reads as it did. -/
def fnExactLowestHeightUptoRow : OpenClaim := { program := "ytokhhjepjbhhpaagreat", sum := "012f72038ede0662baab3235517bdb115b278de44d4b40a196bb4bd4005c3b46", func := "loop.example/g00897/laws.FnExactLowestHeight", spec := "fnExactLowestHeight", unfollowed := true, recurses := true, apart := false, narrowed := true }
def FnExactLowestHeightUptoSaid : Prop := fnExactLowestHeightUptoRow.holds Tryz.pinned (OpenSpec.upto fnExactLowestHeightSpec)

/-- 'laws.FnExactCompactPlan', WHERE WHAT IT READS IS OF BULK AT MOST 1048576: true; the input reads as it did. -/
def fnExactCompactPlanUptoRow : OpenClaim := { program := "ytokhhjepjbhhpaagreat", sum := "012f72038ede0662baab3235517bdb115b278de44d4b40a196bb4bd4005c3b46", func := "loop.example/g00897/laws.FnExactCompactPlan", spec := "fnExactCompactPlan", unfollowed := true, recurses := true, apart := false, narrowed := true }
def FnExactCompactPlanUptoSaid : Prop := fnExactCompactPlanUptoRow.holds Tryz.pinned (OpenSpec.upto fnExactCompactPlanSpec)

/-- 'laws.FnExactPlanDifference', WHERE WHAT IT READS IS OF BULK AT MOST 1048576: true; the input reads as it did. -/
def fnExactPlanDifferenceUptoRow : OpenClaim := { program := "ytokhhjepjbhhpaagreat", sum := "012f72038ede0662baab3235517bdb115b278de44d4b40a196bb4bd4005c3b46", func := "loop.example/g00897/laws.FnExactPlanDifference", spec := "fnExactPlanDifference", unfollowed := true, recurses := true, apart := false, narrowed := true }
def FnExactPlanDifferenceUptoSaid : Prop := fnExactPlanDifferenceUptoRow.holds Tryz.pinned (OpenSpec.upto fnExactPlanDifferenceSpec)

/-- 'laws.FnExactStartChange', WHERE WHAT IT READS IS OF BULK AT MOST 1048576: true; the input reads as it did. -/
def fnExactStartChangeUptoRow : OpenClaim := { program := "ytokhhjepjbhhpaagreat", sum := "012f72038ede0662baab3235517bdb115b278de44d4b40a196bb4bd4005c3b46", func := "loop.example/g00897/laws.FnExactStartChange", spec := "fnExactStartChange", unfollowed := true, recurses := true, apart := false, narrowed := true }
def FnExactStartChangeUptoSaid : Prop := fnExactStartChangeUptoRow.holds Tryz.pinned (OpenSpec.upto fnExactStartChangeSpec)

/-- 'laws.FnExactIsHitless', WHERE WHAT IT READS IS OF BULK AT MOST 1048576: true; the input reads as it did. -/
def fnExactIsHitlessUptoRow : OpenClaim := { program := "ytokhhjepjbhhpaagreat", sum := "012f72038ede0662baab3235517bdb115b278de44d4b40a196bb4bd4005c3b46", func := "loop.example/g00897/laws.FnExactIsHitless", spec := "fnExactIsHitless", inPlace := ["slices.overlaps[loop.example/g00897/impl.Light]"], unfollowed := true, recurses := true, apart := false, narrowed := true }
def FnExactIsHitlessUptoSaid : Prop := fnExactIsHitlessUptoRow.holds Tryz.pinned (OpenSpec.upto fnExactIsHitlessSpec)

/-- 'laws.FnExactIsValidChange', WHERE WHAT IT READS IS OF BULK AT MOST 1048576: true; the input reads as it did. -/
def fnExactIsValidChangeUptoRow : OpenClaim := { program := "ytokhhjepjbhhpaagreat", sum := "012f72038ede0662baab3235517bdb115b278de44d4b40a196bb4bd4005c3b46", func := "loop.example/g00897/laws.FnExactIsValidChange", spec := "fnExactIsValidChange", inPlace := ["slices.overlaps[loop.example/g00897/impl.Light]"], unfollowed := true, recurses := true, apart := false, narrowed := true }
def FnExactIsValidChangeUptoSaid : Prop := fnExactIsValidChangeUptoRow.holds Tryz.pinned (OpenSpec.upto fnExactIsValidChangeSpec)

end Rows
end Go.Proofs.YtokhhjepjbhhpaaGreat
