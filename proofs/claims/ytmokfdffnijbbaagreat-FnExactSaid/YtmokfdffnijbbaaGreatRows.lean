/-
  No cell of these rows narrows 'for every input' (looked for: loops, veiled, ifaces, maps, wideKeys, modest, calm, conditions, laid).
  DERIVED. THE GIVEN ROWS OF THIS SEAT. 6 by the template 'for every input the law returns true; each argument reads behind the call as it read before'; 0 by the template 'total and deterministic' (their statements: YtmokfdffnijbbaaGreatTotals.lean).
  GIVEN WITH THE SEED: the statements are not yours to turn. If you find one false, say at which input.
  Laid BY PROGRAM, IN A SANDBOX (cutbox-rows.mjs): the forced cells as the released guide's own fill.sh prints them over the translation a4e70976fb4468c7… (all of the seat's roots in one cut). By AI agents, Wed Nov 11 2026. No macro, syntax, notation, axiom, sorry.
-/
import Derived.Test.YtmokfdffnijbbaaGreatChecked
import GoSem.Claim
import GoSem.ClaimJoined
import GoSem.ClaimMapViews
import Derived.JoinedTies
import Derived.KernelRfl
namespace Go.Proofs.YtmokfdffnijbbaaGreat
/- THE CELL 'sum', in the pinned program and in every row, IS THE sha256 OF THE DUMP (.gsa) THAT YtmokfdffnijbbaaGreatProg.lean LOADS. Nothing in Lean hashes anything: it is a label: what it is worth is what the hold of that sum in a sandbox is worth. -/
noncomputable def Tryz.pinned : Pinned := { name := "ytmokfdffnijbbaagreat", sum := "a4e70976fb4468c7de97da82731d4822290fdcea23a5c0d9fb8f7650371e0ffd", checked := Tryz.checked }
namespace Rows
def none {H : Type} : Left H := { results := [], args := [] }

/-- 'laws.FnExactLowestHeight': WHATEVER THE INPUT: true; the input reads as it did. -/
def fnExactLowestHeightSpec : ChangeSpec := { name := "fnExactLowestHeight", fn := fun _ => fun
  | [d] => { results := [.lit (.bool true)], args := [d] }
  | _ => none }
def fnExactLowestHeightRow : OpenClaim := { program := "ytmokfdffnijbbaagreat", sum := "a4e70976fb4468c7de97da82731d4822290fdcea23a5c0d9fb8f7650371e0ffd", func := "loop.example/g00897/laws.FnExactLowestHeight", spec := "fnExactLowestHeight", unfollowed := true, recurses := true, apart := false }
def FnExactLowestHeightSaid : Prop := fnExactLowestHeightRow.holds Tryz.pinned (OpenSpec.ofChange fnExactLowestHeightSpec)

/-- ITS FALSE NEIGHBOUR: 'it returns false'. Refute it at one input. -/
def fnExactLowestHeightWrong : ChangeSpec := { name := "fnExactLowestHeight", fn := fun _ => fun
  | [d] => { results := [.lit (.bool false)], args := [d] }
  | _ => none }
def FnExactLowestHeightWrongFalsely : Prop := fnExactLowestHeightRow.holds Tryz.pinned (OpenSpec.ofChange fnExactLowestHeightWrong)

/-- 'laws.FnExactCompactPlan': WHATEVER THE INPUT: true; the input reads as it did. -/
def fnExactCompactPlanSpec : ChangeSpec := { name := "fnExactCompactPlan", fn := fun _ => fun
  | [d] => { results := [.lit (.bool true)], args := [d] }
  | _ => none }
def fnExactCompactPlanRow : OpenClaim := { program := "ytmokfdffnijbbaagreat", sum := "a4e70976fb4468c7de97da82731d4822290fdcea23a5c0d9fb8f7650371e0ffd", func := "loop.example/g00897/laws.FnExactCompactPlan", spec := "fnExactCompactPlan", unfollowed := true, recurses := true, apart := false }
def FnExactCompactPlanSaid : Prop := fnExactCompactPlanRow.holds Tryz.pinned (OpenSpec.ofChange fnExactCompactPlanSpec)

/-- ITS FALSE NEIGHBOUR: 'it returns false'. Refute it at one input. -/
def fnExactCompactPlanWrong : ChangeSpec := { name := "fnExactCompactPlan", fn := fun _ => fun
  | [d] => { results := [.lit (.bool false)], args := [d] }
  | _ => none }
def FnExactCompactPlanWrongFalsely : Prop := fnExactCompactPlanRow.holds Tryz.pinned (OpenSpec.ofChange fnExactCompactPlanWrong)

/-- 'laws.FnExact': WHATEVER THE INPUT: true; the input reads as it did. -/
def fnExactSpec : ChangeSpec := { name := "fnExact", fn := fun _ => fun
  | [d] => { results := [.lit (.bool true)], args := [d] }
  | _ => none }
def fnExactRow : OpenClaim := { program := "ytmokfdffnijbbaagreat", sum := "a4e70976fb4468c7de97da82731d4822290fdcea23a5c0d9fb8f7650371e0ffd", func := "loop.example/g00897/laws.FnExact", spec := "fnExact", unfollowed := true, recurses := true, apart := false }
def FnExactSaid : Prop := fnExactRow.holds Tryz.pinned (OpenSpec.ofChange fnExactSpec)

/-- ITS FALSE NEIGHBOUR: 'it returns false'. Refute it at one input. -/
def fnExactWrong : ChangeSpec := { name := "fnExact", fn := fun _ => fun
  | [d] => { results := [.lit (.bool false)], args := [d] }
  | _ => none }
def FnExactWrongFalsely : Prop := fnExactRow.holds Tryz.pinned (OpenSpec.ofChange fnExactWrong)

/-- 'laws.FnDefragmentation': WHATEVER THE INPUT: true; the input reads as it did. -/
def fnDefragmentationSpec : ChangeSpec := { name := "fnDefragmentation", fn := fun _ => fun
  | [d] => { results := [.lit (.bool true)], args := [d] }
  | _ => none }
def fnDefragmentationRow : OpenClaim := { program := "ytmokfdffnijbbaagreat", sum := "a4e70976fb4468c7de97da82731d4822290fdcea23a5c0d9fb8f7650371e0ffd", func := "loop.example/g00897/laws.FnDefragmentation", spec := "fnDefragmentation", unfollowed := true, recurses := true, apart := false }
def FnDefragmentationSaid : Prop := fnDefragmentationRow.holds Tryz.pinned (OpenSpec.ofChange fnDefragmentationSpec)

/-- ITS FALSE NEIGHBOUR: 'it returns false'. Refute it at one input. -/
def fnDefragmentationWrong : ChangeSpec := { name := "fnDefragmentation", fn := fun _ => fun
  | [d] => { results := [.lit (.bool false)], args := [d] }
  | _ => none }
def FnDefragmentationWrongFalsely : Prop := fnDefragmentationRow.holds Tryz.pinned (OpenSpec.ofChange fnDefragmentationWrong)

/-- 'laws.FnExactSafeOrder': WHATEVER THE INPUT: true; the input reads as it did. -/
def fnExactSafeOrderSpec : ChangeSpec := { name := "fnExactSafeOrder", fn := fun _ => fun
  | [d1, d2] => { results := [.lit (.bool true)], args := [d1, d2] }
  | _ => none }
def fnExactSafeOrderRow : OpenClaim := { program := "ytmokfdffnijbbaagreat", sum := "a4e70976fb4468c7de97da82731d4822290fdcea23a5c0d9fb8f7650371e0ffd", func := "loop.example/g00897/laws.FnExactSafeOrder", spec := "fnExactSafeOrder", inPlace := ["slices.overlaps[loop.example/g00897/impl.Light]"], unfollowed := true, recurses := true, apart := false }
def FnExactSafeOrderSaid : Prop := fnExactSafeOrderRow.holds Tryz.pinned (OpenSpec.ofChange fnExactSafeOrderSpec)

/-- ITS FALSE NEIGHBOUR: 'it returns false'. Refute it at one input. -/
def fnExactSafeOrderWrong : ChangeSpec := { name := "fnExactSafeOrder", fn := fun _ => fun
  | [d1, d2] => { results := [.lit (.bool false)], args := [d1, d2] }
  | _ => none }
def FnExactSafeOrderWrongFalsely : Prop := fnExactSafeOrderRow.holds Tryz.pinned (OpenSpec.ofChange fnExactSafeOrderWrong)

/-- 'laws.FnSafeOrder': WHATEVER THE INPUT: true; the input reads as it did. -/
def fnSafeOrderSpec : ChangeSpec := { name := "fnSafeOrder", fn := fun _ => fun
  | [d] => { results := [.lit (.bool true)], args := [d] }
  | _ => none }
def fnSafeOrderRow : OpenClaim := { program := "ytmokfdffnijbbaagreat", sum := "a4e70976fb4468c7de97da82731d4822290fdcea23a5c0d9fb8f7650371e0ffd", func := "loop.example/g00897/laws.FnSafeOrder", spec := "fnSafeOrder", inPlace := ["slices.overlaps[loop.example/g00897/impl.Light]"], unfollowed := true, recurses := true, apart := false }
def FnSafeOrderSaid : Prop := fnSafeOrderRow.holds Tryz.pinned (OpenSpec.ofChange fnSafeOrderSpec)

/-- ITS FALSE NEIGHBOUR: 'it returns false'. Refute it at one input. -/
def fnSafeOrderWrong : ChangeSpec := { name := "fnSafeOrder", fn := fun _ => fun
  | [d] => { results := [.lit (.bool false)], args := [d] }
  | _ => none }
def FnSafeOrderWrongFalsely : Prop := fnSafeOrderRow.holds Tryz.pinned (OpenSpec.ofChange fnSafeOrderWrong)

/- THE SECOND FORM. 'bulk': how many values and letters a reading holds, each counted each time it is reached (what is shared counts as often as it is met; a slice's spare places count too). A statement '..UptoSaid' is the law's where the arguments, and the package variables that the reading takes, are together of bulk at most 1048576: NARROWER than '..Said'. Prove '..Said' where nothing that the law and all that it calls make is longer than what came in: it says more and counts as full. Else prove '..UptoSaid'. A law counts once. -/
mutual
def uptoBulk {H : Type} : DataW H → Nat
  | .lit (.string bytes) => bytes.length + 1
  | .lit _ => 1
  | .nil => 1
  | .ptr d => uptoBulk d + 1
  | .slice elems spare => uptoBulkAll elems + uptoBulkAll spare + 1
  | .agg parts => uptoBulkAll parts + 1
  | .iface _ d => uptoBulk d + 1
  | .map entries => uptoBulkEntries entries + 1
  | .held _ => 1
def uptoBulkAll {H : Type} : List (DataW H) → Nat
  | [] => 0
  | d :: r => uptoBulk d + uptoBulkAll r
def uptoBulkEntries {H : Type} : List (Lit × DataW H) → Nat
  | [] => 0
  | x :: r => uptoBulkEntry x + uptoBulkEntries r
def uptoBulkEntry {H : Type} : Lit × DataW H → Nat
  | (.string bytes, d) => bytes.length + uptoBulk d + 1
  | (_, d) => uptoBulk d + 1
 end
def uptoSmall : (H : Type) → List (DataW H) → Bool := fun _ ds => decide (uptoBulkAll ds ≤ 1048576)
def OpenSpec.upto (s : _root_.Go.ChangeSpec) : _root_.Go.OpenSpec := { _root_.Go.OpenSpec.ofChange s with cond := some uptoSmall }

/-- 'laws.FnExactLowestHeight', WHERE WHAT IT READS IS OF BULK AT MOST 1048576: true; the input reads as it did. -/
def fnExactLowestHeightUptoRow : OpenClaim := { program := "ytmokfdffnijbbaagreat", sum := "a4e70976fb4468c7de97da82731d4822290fdcea23a5c0d9fb8f7650371e0ffd", func := "loop.example/g00897/laws.FnExactLowestHeight", spec := "fnExactLowestHeight", unfollowed := true, recurses := true, apart := false, narrowed := true }
def FnExactLowestHeightUptoSaid : Prop := fnExactLowestHeightUptoRow.holds Tryz.pinned (OpenSpec.upto fnExactLowestHeightSpec)

/-- 'laws.FnExactCompactPlan', WHERE WHAT IT READS IS OF BULK AT MOST 1048576: true; the input reads as it did. -/
def fnExactCompactPlanUptoRow : OpenClaim := { program := "ytmokfdffnijbbaagreat", sum := "a4e70976fb4468c7de97da82731d4822290fdcea23a5c0d9fb8f7650371e0ffd", func := "loop.example/g00897/laws.FnExactCompactPlan", spec := "fnExactCompactPlan", unfollowed := true, recurses := true, apart := false, narrowed := true }
def FnExactCompactPlanUptoSaid : Prop := fnExactCompactPlanUptoRow.holds Tryz.pinned (OpenSpec.upto fnExactCompactPlanSpec)

/-- 'laws.FnExact', WHERE WHAT IT READS IS OF BULK AT MOST 1048576: true; the input reads as it did. -/
def fnExactUptoRow : OpenClaim := { program := "ytmokfdffnijbbaagreat", sum := "a4e70976fb4468c7de97da82731d4822290fdcea23a5c0d9fb8f7650371e0ffd", func := "loop.example/g00897/laws.FnExact", spec := "fnExact", unfollowed := true, recurses := true, apart := false, narrowed := true }
def FnExactUptoSaid : Prop := fnExactUptoRow.holds Tryz.pinned (OpenSpec.upto fnExactSpec)

/-- 'laws.FnDefragmentation', WHERE WHAT IT READS IS OF BULK AT MOST 1048576: true; the input reads as it did. -/
def fnDefragmentationUptoRow : OpenClaim := { program := "ytmokfdffnijbbaagreat", sum := "a4e70976fb4468c7de97da82731d4822290fdcea23a5c0d9fb8f7650371e0ffd", func := "loop.example/g00897/laws.FnDefragmentation", spec := "fnDefragmentation", unfollowed := true, recurses := true, apart := false, narrowed := true }
def FnDefragmentationUptoSaid : Prop := fnDefragmentationUptoRow.holds Tryz.pinned (OpenSpec.upto fnDefragmentationSpec)

/-- 'laws.FnExactSafeOrder', WHERE WHAT IT READS IS OF BULK AT MOST 1048576: true; the input reads as it did. -/
def fnExactSafeOrderUptoRow : OpenClaim := { program := "ytmokfdffnijbbaagreat", sum := "a4e70976fb4468c7de97da82731d4822290fdcea23a5c0d9fb8f7650371e0ffd", func := "loop.example/g00897/laws.FnExactSafeOrder", spec := "fnExactSafeOrder", inPlace := ["slices.overlaps[loop.example/g00897/impl.Light]"], unfollowed := true, recurses := true, apart := false, narrowed := true }
def FnExactSafeOrderUptoSaid : Prop := fnExactSafeOrderUptoRow.holds Tryz.pinned (OpenSpec.upto fnExactSafeOrderSpec)

/-- 'laws.FnSafeOrder', WHERE WHAT IT READS IS OF BULK AT MOST 1048576: true; the input reads as it did. -/
def fnSafeOrderUptoRow : OpenClaim := { program := "ytmokfdffnijbbaagreat", sum := "a4e70976fb4468c7de97da82731d4822290fdcea23a5c0d9fb8f7650371e0ffd", func := "loop.example/g00897/laws.FnSafeOrder", spec := "fnSafeOrder", inPlace := ["slices.overlaps[loop.example/g00897/impl.Light]"], unfollowed := true, recurses := true, apart := false, narrowed := true }
def FnSafeOrderUptoSaid : Prop := fnSafeOrderUptoRow.holds Tryz.pinned (OpenSpec.upto fnSafeOrderSpec)

end Rows
end Go.Proofs.YtmokfdffnijbbaaGreat
