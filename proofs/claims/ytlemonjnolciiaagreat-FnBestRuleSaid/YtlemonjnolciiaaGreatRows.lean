/-
  No cell of these rows narrows 'for every input' (looked for: loops, veiled, ifaces, maps, wideKeys, modest, calm, conditions, laid).
  DERIVED. THE GIVEN ROWS OF THIS SEAT. 7 by the template 'for every input the law returns true; each argument reads behind the call as it read before'; 0 by the template 'total and deterministic' (their statements: YtlemonjnolciiaaGreatTotals.lean).
  GIVEN WITH THE SEED: the statements are not yours to turn. If you find one false, say at which input.
  Laid BY PROGRAM, IN A SANDBOX (cutbox-rows.mjs): the forced cells as the released guide's own fill.sh prints them over the translation 6e18e4347931582d… (all of the seat's roots in one cut). By AI agents, Wed Nov 11 2026. No macro, syntax, notation, axiom, sorry.
-/
import Derived.Test.YtlemonjnolciiaaGreatChecked
import GoSem.Claim
import GoSem.ClaimJoined
import GoSem.ClaimMapViews
import Derived.JoinedTies
import Derived.KernelRfl
namespace Go.Proofs.YtlemonjnolciiaaGreat
/- THE CELL 'sum', in the pinned program and in every row, IS THE sha256 OF THE DUMP (.gsa) THAT YtlemonjnolciiaaGreatProg.lean LOADS. Nothing in Lean hashes anything: it is a label: what it is worth is what the hold of that sum in a sandbox is worth. -/
noncomputable def Tryz.pinned : Pinned := { name := "ytlemonjnolciiaagreat", sum := "6e18e4347931582d59dc64ed617c0376d06f6467a343407efa52bc654994a194", checked := Tryz.checked }
namespace Rows
def none {H : Type} : Left H := { results := [], args := [] }

/-- 'laws.FnServing': WHATEVER THE INPUT: true; the input reads as it did. -/
def fnServingSpec : ChangeSpec := { name := "fnServing", fn := fun _ => fun
  | [d] => { results := [.lit (.bool true)], args := [d] }
  | _ => none }
def fnServingRow : OpenClaim := { program := "ytlemonjnolciiaagreat", sum := "6e18e4347931582d59dc64ed617c0376d06f6467a343407efa52bc654994a194", func := "loop.example/g00897/laws.FnServing", spec := "fnServing", inPlace := ["slices.overlaps[loop.example/g00897/impl.Light]"], unfollowed := true, recurses := true, apart := false }
def FnServingSaid : Prop := fnServingRow.holds Tryz.pinned (OpenSpec.ofChange fnServingSpec)

/-- ITS FALSE NEIGHBOUR: 'it returns false'. Refute it at one input. -/
def fnServingWrong : ChangeSpec := { name := "fnServing", fn := fun _ => fun
  | [d] => { results := [.lit (.bool false)], args := [d] }
  | _ => none }
def FnServingWrongFalsely : Prop := fnServingRow.holds Tryz.pinned (OpenSpec.ofChange fnServingWrong)

/-- 'laws.FnReverting': WHATEVER THE INPUT: true; the input reads as it did. -/
def fnRevertingSpec : ChangeSpec := { name := "fnReverting", fn := fun _ => fun
  | [d] => { results := [.lit (.bool true)], args := [d] }
  | _ => none }
def fnRevertingRow : OpenClaim := { program := "ytlemonjnolciiaagreat", sum := "6e18e4347931582d59dc64ed617c0376d06f6467a343407efa52bc654994a194", func := "loop.example/g00897/laws.FnReverting", spec := "fnReverting", unfollowed := true, recurses := true, apart := false }
def FnRevertingSaid : Prop := fnRevertingRow.holds Tryz.pinned (OpenSpec.ofChange fnRevertingSpec)

/-- ITS FALSE NEIGHBOUR: 'it returns false'. Refute it at one input. -/
def fnRevertingWrong : ChangeSpec := { name := "fnReverting", fn := fun _ => fun
  | [d] => { results := [.lit (.bool false)], args := [d] }
  | _ => none }
def FnRevertingWrongFalsely : Prop := fnRevertingRow.holds Tryz.pinned (OpenSpec.ofChange fnRevertingWrong)

/-- 'laws.FnSafeOrder': WHATEVER THE INPUT: true; the input reads as it did. -/
def fnSafeOrderSpec : ChangeSpec := { name := "fnSafeOrder", fn := fun _ => fun
  | [d] => { results := [.lit (.bool true)], args := [d] }
  | _ => none }
def fnSafeOrderRow : OpenClaim := { program := "ytlemonjnolciiaagreat", sum := "6e18e4347931582d59dc64ed617c0376d06f6467a343407efa52bc654994a194", func := "loop.example/g00897/laws.FnSafeOrder", spec := "fnSafeOrder", inPlace := ["slices.overlaps[loop.example/g00897/impl.Light]"], unfollowed := true, recurses := true, apart := false }
def FnSafeOrderSaid : Prop := fnSafeOrderRow.holds Tryz.pinned (OpenSpec.ofChange fnSafeOrderSpec)

/-- ITS FALSE NEIGHBOUR: 'it returns false'. Refute it at one input. -/
def fnSafeOrderWrong : ChangeSpec := { name := "fnSafeOrder", fn := fun _ => fun
  | [d] => { results := [.lit (.bool false)], args := [d] }
  | _ => none }
def FnSafeOrderWrongFalsely : Prop := fnSafeOrderRow.holds Tryz.pinned (OpenSpec.ofChange fnSafeOrderWrong)

/-- 'laws.FnExactSafeOrder': WHATEVER THE INPUT: true; the input reads as it did. -/
def fnExactSafeOrderSpec : ChangeSpec := { name := "fnExactSafeOrder", fn := fun _ => fun
  | [d1, d2] => { results := [.lit (.bool true)], args := [d1, d2] }
  | _ => none }
def fnExactSafeOrderRow : OpenClaim := { program := "ytlemonjnolciiaagreat", sum := "6e18e4347931582d59dc64ed617c0376d06f6467a343407efa52bc654994a194", func := "loop.example/g00897/laws.FnExactSafeOrder", spec := "fnExactSafeOrder", inPlace := ["slices.overlaps[loop.example/g00897/impl.Light]"], unfollowed := true, recurses := true, apart := false }
def FnExactSafeOrderSaid : Prop := fnExactSafeOrderRow.holds Tryz.pinned (OpenSpec.ofChange fnExactSafeOrderSpec)

/-- ITS FALSE NEIGHBOUR: 'it returns false'. Refute it at one input. -/
def fnExactSafeOrderWrong : ChangeSpec := { name := "fnExactSafeOrder", fn := fun _ => fun
  | [d1, d2] => { results := [.lit (.bool false)], args := [d1, d2] }
  | _ => none }
def FnExactSafeOrderWrongFalsely : Prop := fnExactSafeOrderRow.holds Tryz.pinned (OpenSpec.ofChange fnExactSafeOrderWrong)

/-- 'laws.FnFiberEvents': WHATEVER THE INPUT: true; the input reads as it did. -/
def fnFiberEventsSpec : ChangeSpec := { name := "fnFiberEvents", fn := fun _ => fun
  | [d] => { results := [.lit (.bool true)], args := [d] }
  | _ => none }
def fnFiberEventsRow : OpenClaim := { program := "ytlemonjnolciiaagreat", sum := "6e18e4347931582d59dc64ed617c0376d06f6467a343407efa52bc654994a194", func := "loop.example/g00897/laws.FnFiberEvents", spec := "fnFiberEvents", inPlace := ["slices.overlaps[loop.example/g00897/impl.Light]"], unfollowed := true, recurses := true, apart := false }
def FnFiberEventsSaid : Prop := fnFiberEventsRow.holds Tryz.pinned (OpenSpec.ofChange fnFiberEventsSpec)

/-- ITS FALSE NEIGHBOUR: 'it returns false'. Refute it at one input. -/
def fnFiberEventsWrong : ChangeSpec := { name := "fnFiberEvents", fn := fun _ => fun
  | [d] => { results := [.lit (.bool false)], args := [d] }
  | _ => none }
def FnFiberEventsWrongFalsely : Prop := fnFiberEventsRow.holds Tryz.pinned (OpenSpec.ofChange fnFiberEventsWrong)

/-- 'laws.FnRestoring': WHATEVER THE INPUT: true; the input reads as it did. -/
def fnRestoringSpec : ChangeSpec := { name := "fnRestoring", fn := fun _ => fun
  | [d] => { results := [.lit (.bool true)], args := [d] }
  | _ => none }
def fnRestoringRow : OpenClaim := { program := "ytlemonjnolciiaagreat", sum := "6e18e4347931582d59dc64ed617c0376d06f6467a343407efa52bc654994a194", func := "loop.example/g00897/laws.FnRestoring", spec := "fnRestoring", inPlace := ["slices.overlaps[loop.example/g00897/impl.Light]"], unfollowed := true, recurses := true, apart := false }
def FnRestoringSaid : Prop := fnRestoringRow.holds Tryz.pinned (OpenSpec.ofChange fnRestoringSpec)

/-- ITS FALSE NEIGHBOUR: 'it returns false'. Refute it at one input. -/
def fnRestoringWrong : ChangeSpec := { name := "fnRestoring", fn := fun _ => fun
  | [d] => { results := [.lit (.bool false)], args := [d] }
  | _ => none }
def FnRestoringWrongFalsely : Prop := fnRestoringRow.holds Tryz.pinned (OpenSpec.ofChange fnRestoringWrong)

/-- 'laws.FnBestRule': WHATEVER THE INPUT: true; the input reads as it did. -/
def fnBestRuleSpec : ChangeSpec := { name := "fnBestRule", fn := fun _ => fun
  | [d] => { results := [.lit (.bool true)], args := [d] }
  | _ => none }
def fnBestRuleRow : OpenClaim := { program := "ytlemonjnolciiaagreat", sum := "6e18e4347931582d59dc64ed617c0376d06f6467a343407efa52bc654994a194", func := "loop.example/g00897/laws.FnBestRule", spec := "fnBestRule", inPlace := ["slices.overlaps[loop.example/g00897/impl.Light]"], unfollowed := true, recurses := true, apart := false }
def FnBestRuleSaid : Prop := fnBestRuleRow.holds Tryz.pinned (OpenSpec.ofChange fnBestRuleSpec)

/-- ITS FALSE NEIGHBOUR: 'it returns false'. Refute it at one input. -/
def fnBestRuleWrong : ChangeSpec := { name := "fnBestRule", fn := fun _ => fun
  | [d] => { results := [.lit (.bool false)], args := [d] }
  | _ => none }
def FnBestRuleWrongFalsely : Prop := fnBestRuleRow.holds Tryz.pinned (OpenSpec.ofChange fnBestRuleWrong)

/- THE SECOND FORM. 'bulk': how many values and letters a reading holds, each counted each time it is reached (what is shared counts as often as it is met; a slice's spare places count too). A statement '..UptoSaid' is the law's where the arguments, and the package variables that the reading takes, are together of bulk at most 1048576: NARROWER than '..Said'. Prove '..Said' where nothing that the law and all that it calls make is longer than what came in: it says more and counts as full. Else prove '..UptoSaid'. A law counts once. -/
mutual
def uptoBulk {H : Type} : DataW H → Nat
  | .lit (.string bytes) => bytes.length + 1
  | .lit _ => 1
  | .nil => 1
  | .ptr d => uptoBulk d + 1
  | .slice elems spare => uptoBulkAll elems + uptoBulkAll spare + 1
  | .agg parts => uptoBulkAll parts + 1
  | .iface _ d => uptoBulk d + 1
  | .map entries => uptoBulkEntries entries + 1
  | .held _ => 1
def uptoBulkAll {H : Type} : List (DataW H) → Nat
  | [] => 0
  | d :: r => uptoBulk d + uptoBulkAll r
def uptoBulkEntries {H : Type} : List (Lit × DataW H) → Nat
  | [] => 0
  | x :: r => uptoBulkEntry x + uptoBulkEntries r
def uptoBulkEntry {H : Type} : Lit × DataW H → Nat
  | (.string bytes, d) => bytes.length + uptoBulk d + 1
  | (_, d) => uptoBulk d + 1
 end
def uptoSmall : (H : Type) → List (DataW H) → Bool := fun _ ds => decide (uptoBulkAll ds ≤ 1048576)
def OpenSpec.upto (s : _root_.Go.ChangeSpec) : _root_.Go.OpenSpec := { _root_.Go.OpenSpec.ofChange s with cond := some uptoSmall }

/-- 'laws.FnServing', WHERE WHAT IT READS IS OF BULK AT MOST 1048576: true; the input reads as it did. -/
def fnServingUptoRow : OpenClaim := { program := "ytlemonjnolciiaagreat", sum := "6e18e4347931582d59dc64ed617c0376d06f6467a343407efa52bc654994a194", func := "loop.example/g00897/laws.FnServing", spec := "fnServing", inPlace := ["slices.overlaps[loop.example/g00897/impl.Light]"], unfollowed := true, recurses := true, apart := false, narrowed := true }
def FnServingUptoSaid : Prop := fnServingUptoRow.holds Tryz.pinned (OpenSpec.upto fnServingSpec)

/-- 'laws.FnReverting', WHERE WHAT IT READS IS OF BULK AT MOST 1048576: true; the input reads as it did. -/
def fnRevertingUptoRow : OpenClaim := { program := "ytlemonjnolciiaagreat", sum := "6e18e4347931582d59dc64ed617c0376d06f6467a343407efa52bc654994a194", func := "loop.example/g00897/laws.FnReverting", spec := "fnReverting", unfollowed := true, recurses := true, apart := false, narrowed := true }
def FnRevertingUptoSaid : Prop := fnRevertingUptoRow.holds Tryz.pinned (OpenSpec.upto fnRevertingSpec)

/-- 'laws.FnSafeOrder', WHERE WHAT IT READS IS OF BULK AT MOST 1048576: true; the input reads as it did. -/
def fnSafeOrderUptoRow : OpenClaim := { program := "ytlemonjnolciiaagreat", sum := "6e18e4347931582d59dc64ed617c0376d06f6467a343407efa52bc654994a194", func := "loop.example/g00897/laws.FnSafeOrder", spec := "fnSafeOrder", inPlace := ["slices.overlaps[loop.example/g00897/impl.Light]"], unfollowed := true, recurses := true, apart := false, narrowed := true }
def FnSafeOrderUptoSaid : Prop := fnSafeOrderUptoRow.holds Tryz.pinned (OpenSpec.upto fnSafeOrderSpec)

/-- 'laws.FnExactSafeOrder', WHERE WHAT IT READS IS OF BULK AT MOST 1048576: true; the input reads as it did. -/
def fnExactSafeOrderUptoRow : OpenClaim := { program := "ytlemonjnolciiaagreat", sum := "6e18e4347931582d59dc64ed617c0376d06f6467a343407efa52bc654994a194", func := "loop.example/g00897/laws.FnExactSafeOrder", spec := "fnExactSafeOrder", inPlace := ["slices.overlaps[loop.example/g00897/impl.Light]"], unfollowed := true, recurses := true, apart := false, narrowed := true }
def FnExactSafeOrderUptoSaid : Prop := fnExactSafeOrderUptoRow.holds Tryz.pinned (OpenSpec.upto fnExactSafeOrderSpec)

/-- 'laws.FnFiberEvents', WHERE WHAT IT READS IS OF BULK AT MOST 1048576: true; the input reads as it did. -/
def fnFiberEventsUptoRow : OpenClaim := { program := "ytlemonjnolciiaagreat", sum := "6e18e4347931582d59dc64ed617c0376d06f6467a343407efa52bc654994a194", func := "loop.example/g00897/laws.FnFiberEvents", spec := "fnFiberEvents", inPlace := ["slices.overlaps[loop.example/g00897/impl.Light]"], unfollowed := true, recurses := true, apart := false, narrowed := true }
def FnFiberEventsUptoSaid : Prop := fnFiberEventsUptoRow.holds Tryz.pinned (OpenSpec.upto fnFiberEventsSpec)

/-- 'laws.FnRestoring', WHERE WHAT IT READS IS OF BULK AT MOST 1048576: true; the input reads as it did. -/
def fnRestoringUptoRow : OpenClaim := { program := "ytlemonjnolciiaagreat", sum := "6e18e4347931582d59dc64ed617c0376d06f6467a343407efa52bc654994a194", func := "loop.example/g00897/laws.FnRestoring", spec := "fnRestoring", inPlace := ["slices.overlaps[loop.example/g00897/impl.Light]"], unfollowed := true, recurses := true, apart := false, narrowed := true }
def FnRestoringUptoSaid : Prop := fnRestoringUptoRow.holds Tryz.pinned (OpenSpec.upto fnRestoringSpec)

/-- 'laws.FnBestRule', WHERE WHAT IT READS IS OF BULK AT MOST 1048576: true; the input reads as it did. -/
def fnBestRuleUptoRow : OpenClaim := { program := "ytlemonjnolciiaagreat", sum := "6e18e4347931582d59dc64ed617c0376d06f6467a343407efa52bc654994a194", func := "loop.example/g00897/laws.FnBestRule", spec := "fnBestRule", inPlace := ["slices.overlaps[loop.example/g00897/impl.Light]"], unfollowed := true, recurses := true, apart := false, narrowed := true }
def FnBestRuleUptoSaid : Prop := fnBestRuleUptoRow.holds Tryz.pinned (OpenSpec.upto fnBestRuleSpec)

end Rows
end Go.Proofs.YtlemonjnolciiaaGreat
