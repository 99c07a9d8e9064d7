/-
  No cell of these rows narrows 'for every input' (looked for: loops, veiled, ifaces, maps, wideKeys, modest, calm, conditions, laid).
  DERIVED. THE GIVEN ROWS OF THIS SEAT. 8 by the template 'for every input the law returns true; each argument reads behind the call as it read before'; 0 by the template 'total and deterministic' (their statements: YtiedecncmihbeaaGreatTotals.lean).
  GIVEN WITH THE SEED: the statements are not yours to turn. If you find one false, say at which input.
  Laid BY PROGRAM, IN A SANDBOX (cutbox-rows.mjs): the forced cells as the released guide's own fill.sh prints them over the translation f8ccbe1ece582a3a… (all of the seat's roots in one cut). By AI agents, Wed Nov 11 2026. No macro, syntax, notation, axiom, sorry.
-/
import Derived.Test.YtiedecncmihbeaaGreatChecked
import GoSem.Claim
import GoSem.ClaimJoined
import GoSem.ClaimMapViews
import Derived.JoinedTies
import Derived.KernelRfl
namespace Go.Proofs.YtiedecncmihbeaaGreat
/- THE CELL 'sum', in the pinned program and in every row, IS THE sha256 OF THE DUMP (.gsa) THAT YtiedecncmihbeaaGreatProg.lean LOADS. Nothing in Lean hashes anything: it is a label: what it is worth is what the hold of that sum in a sandbox is worth. -/
noncomputable def Tryz.pinned : Pinned := { name := "ytiedecncmihbeaagreat", sum := "f8ccbe1ece582a3a1168d1d7a0de2c0dce8afe50aa11f5297bc31ccfa7927049", checked := Tryz.checked }
namespace Rows
def none {H : Type} : Left H := { results := [], args := [] }

/-- 'laws.FnExactApplyAction': WHATEVER THE INPUT: true; the input reads as it did. -/
def fnExactApplyActionSpec : ChangeSpec := { name := "fnExactApplyAction", fn := fun _ => fun
  | [d1, d2] => { results := [.lit (.bool true)], args := [d1, d2] }
  | _ => none }
def fnExactApplyActionRow : OpenClaim := { program := "ytiedecncmihbeaagreat", sum := "f8ccbe1ece582a3a1168d1d7a0de2c0dce8afe50aa11f5297bc31ccfa7927049", func := "loop.example/g00897/laws.FnExactApplyAction", spec := "fnExactApplyAction", inPlace := ["slices.overlaps[loop.example/g00897/impl.Light]"], unfollowed := true, recurses := true, apart := false }
def FnExactApplyActionSaid : Prop := fnExactApplyActionRow.holds Tryz.pinned (OpenSpec.ofChange fnExactApplyActionSpec)

/-- ITS FALSE NEIGHBOUR: 'it returns false'. Refute it at one input. -/
def fnExactApplyActionWrong : ChangeSpec := { name := "fnExactApplyAction", fn := fun _ => fun
  | [d1, d2] => { results := [.lit (.bool false)], args := [d1, d2] }
  | _ => none }
def FnExactApplyActionWrongFalsely : Prop := fnExactApplyActionRow.holds Tryz.pinned (OpenSpec.ofChange fnExactApplyActionWrong)

/-- 'laws.FnExactInverseAction': WHATEVER THE INPUT: true; the input reads as it did. -/
def fnExactInverseActionSpec : ChangeSpec := { name := "fnExactInverseAction", fn := fun _ => fun
  | [d1, d2] => { results := [.lit (.bool true)], args := [d1, d2] }
  | _ => none }
def fnExactInverseActionRow : OpenClaim := { program := "ytiedecncmihbeaagreat", sum := "f8ccbe1ece582a3a1168d1d7a0de2c0dce8afe50aa11f5297bc31ccfa7927049", func := "loop.example/g00897/laws.FnExactInverseAction", spec := "fnExactInverseAction", inPlace := ["slices.overlaps[loop.example/g00897/impl.Light]"], unfollowed := true, recurses := true, apart := false }
def FnExactInverseActionSaid : Prop := fnExactInverseActionRow.holds Tryz.pinned (OpenSpec.ofChange fnExactInverseActionSpec)

/-- ITS FALSE NEIGHBOUR: 'it returns false'. Refute it at one input. -/
def fnExactInverseActionWrong : ChangeSpec := { name := "fnExactInverseAction", fn := fun _ => fun
  | [d1, d2] => { results := [.lit (.bool false)], args := [d1, d2] }
  | _ => none }
def FnExactInverseActionWrongFalsely : Prop := fnExactInverseActionRow.holds Tryz.pinned (OpenSpec.ofChange fnExactInverseActionWrong)

/-- 'laws.FnExactApplyActions': WHATEVER THE INPUT: true; the input reads as it did. -/
def fnExactApplyActionsSpec : ChangeSpec := { name := "fnExactApplyActions", fn := fun _ => fun
  | [d1, d2] => { results := [.lit (.bool true)], args := [d1, d2] }
  | _ => none }
def fnExactApplyActionsRow : OpenClaim := { program := "ytiedecncmihbeaagreat", sum := "f8ccbe1ece582a3a1168d1d7a0de2c0dce8afe50aa11f5297bc31ccfa7927049", func := "loop.example/g00897/laws.FnExactApplyActions", spec := "fnExactApplyActions", inPlace := ["slices.overlaps[loop.example/g00897/impl.Light]"], unfollowed := true, recurses := true, apart := false }
def FnExactApplyActionsSaid : Prop := fnExactApplyActionsRow.holds Tryz.pinned (OpenSpec.ofChange fnExactApplyActionsSpec)

/-- ITS FALSE NEIGHBOUR: 'it returns false'. Refute it at one input. -/
def fnExactApplyActionsWrong : ChangeSpec := { name := "fnExactApplyActions", fn := fun _ => fun
  | [d1, d2] => { results := [.lit (.bool false)], args := [d1, d2] }
  | _ => none }
def FnExactApplyActionsWrongFalsely : Prop := fnExactApplyActionsRow.holds Tryz.pinned (OpenSpec.ofChange fnExactApplyActionsWrong)

/-- 'laws.FnExactStepChange': WHATEVER THE INPUT: true; the input reads as it did. -/
def fnExactStepChangeSpec : ChangeSpec := { name := "fnExactStepChange", fn := fun _ => fun
  | [d] => { results := [.lit (.bool true)], args := [d] }
  | _ => none }
def fnExactStepChangeRow : OpenClaim := { program := "ytiedecncmihbeaagreat", sum := "f8ccbe1ece582a3a1168d1d7a0de2c0dce8afe50aa11f5297bc31ccfa7927049", func := "loop.example/g00897/laws.FnExactStepChange", spec := "fnExactStepChange", inPlace := ["slices.overlaps[loop.example/g00897/impl.Light]"], unfollowed := true, recurses := true, apart := false }
def FnExactStepChangeSaid : Prop := fnExactStepChangeRow.holds Tryz.pinned (OpenSpec.ofChange fnExactStepChangeSpec)

/-- ITS FALSE NEIGHBOUR: 'it returns false'. Refute it at one input. -/
def fnExactStepChangeWrong : ChangeSpec := { name := "fnExactStepChange", fn := fun _ => fun
  | [d] => { results := [.lit (.bool false)], args := [d] }
  | _ => none }
def FnExactStepChangeWrongFalsely : Prop := fnExactStepChangeRow.holds Tryz.pinned (OpenSpec.ofChange fnExactStepChangeWrong)

/-- 'laws.FnExactRunChange': WHATEVER THE INPUT: true; the input reads as it did. -/
def fnExactRunChangeSpec : ChangeSpec := { name := "fnExactRunChange", fn := fun _ => fun
  | [d1, d2] => { results := [.lit (.bool true)], args := [d1, d2] }
  | _ => none }
def fnExactRunChangeRow : OpenClaim := { program := "ytiedecncmihbeaagreat", sum := "f8ccbe1ece582a3a1168d1d7a0de2c0dce8afe50aa11f5297bc31ccfa7927049", func := "loop.example/g00897/laws.FnExactRunChange", spec := "fnExactRunChange", inPlace := ["slices.overlaps[loop.example/g00897/impl.Light]"], unfollowed := true, recurses := true, apart := false }
def FnExactRunChangeSaid : Prop := fnExactRunChangeRow.holds Tryz.pinned (OpenSpec.ofChange fnExactRunChangeSpec)

/-- ITS FALSE NEIGHBOUR: 'it returns false'. Refute it at one input. -/
def fnExactRunChangeWrong : ChangeSpec := { name := "fnExactRunChange", fn := fun _ => fun
  | [d1, d2] => { results := [.lit (.bool false)], args := [d1, d2] }
  | _ => none }
def FnExactRunChangeWrongFalsely : Prop := fnExactRunChangeRow.holds Tryz.pinned (OpenSpec.ofChange fnExactRunChangeWrong)

/-- 'laws.FnInverses': WHATEVER THE INPUT: true; the input reads as it did. -/
def fnInversesSpec : ChangeSpec := { name := "fnInverses", fn := fun _ => fun
  | [d] => { results := [.lit (.bool true)], args := [d] }
  | _ => none }
def fnInversesRow : OpenClaim := { program := "ytiedecncmihbeaagreat", sum := "f8ccbe1ece582a3a1168d1d7a0de2c0dce8afe50aa11f5297bc31ccfa7927049", func := "loop.example/g00897/laws.FnInverses", spec := "fnInverses", inPlace := ["slices.overlaps[loop.example/g00897/impl.Light]"], unfollowed := true, recurses := true, apart := false }
def FnInversesSaid : Prop := fnInversesRow.holds Tryz.pinned (OpenSpec.ofChange fnInversesSpec)

/-- ITS FALSE NEIGHBOUR: 'it returns false'. Refute it at one input. -/
def fnInversesWrong : ChangeSpec := { name := "fnInverses", fn := fun _ => fun
  | [d] => { results := [.lit (.bool false)], args := [d] }
  | _ => none }
def FnInversesWrongFalsely : Prop := fnInversesRow.holds Tryz.pinned (OpenSpec.ofChange fnInversesWrong)

/-- 'laws.FnChanges': WHATEVER THE INPUT: true; the input reads as it did. -/
def fnChangesSpec : ChangeSpec := { name := "fnChanges", fn := fun _ => fun
  | [d] => { results := [.lit (.bool true)], args := [d] }
  | _ => none }
def fnChangesRow : OpenClaim := { program := "ytiedecncmihbeaagreat", sum := "f8ccbe1ece582a3a1168d1d7a0de2c0dce8afe50aa11f5297bc31ccfa7927049", func := "loop.example/g00897/laws.FnChanges", spec := "fnChanges", inPlace := ["slices.overlaps[loop.example/g00897/impl.Light]"], unfollowed := true, recurses := true, apart := false }
def FnChangesSaid : Prop := fnChangesRow.holds Tryz.pinned (OpenSpec.ofChange fnChangesSpec)

/-- ITS FALSE NEIGHBOUR: 'it returns false'. Refute it at one input. -/
def fnChangesWrong : ChangeSpec := { name := "fnChanges", fn := fun _ => fun
  | [d] => { results := [.lit (.bool false)], args := [d] }
  | _ => none }
def FnChangesWrongFalsely : Prop := fnChangesRow.holds Tryz.pinned (OpenSpec.ofChange fnChangesWrong)

/-- 'laws.FnLights': WHATEVER THE INPUT: true; the input reads as it did. -/
def fnLightsSpec : ChangeSpec := { name := "fnLights", fn := fun _ => fun
  | [d] => { results := [.lit (.bool true)], args := [d] }
  | _ => none }
def fnLightsRow : OpenClaim := { program := "ytiedecncmihbeaagreat", sum := "f8ccbe1ece582a3a1168d1d7a0de2c0dce8afe50aa11f5297bc31ccfa7927049", func := "loop.example/g00897/laws.FnLights", spec := "fnLights", inPlace := ["slices.overlaps[loop.example/g00897/impl.Light]"], unfollowed := true, recurses := true, apart := false }
def FnLightsSaid : Prop := fnLightsRow.holds Tryz.pinned (OpenSpec.ofChange fnLightsSpec)

/-- ITS FALSE NEIGHBOUR: 'it returns false'. Refute it at one input. -/
def fnLightsWrong : ChangeSpec := { name := "fnLights", fn := fun _ => fun
  | [d] => { results := [.lit (.bool false)], args := [d] }
  | _ => none }
def FnLightsWrongFalsely : Prop := fnLightsRow.holds Tryz.pinned (OpenSpec.ofChange fnLightsWrong)

/- THE SECOND FORM. 'bulk': how many values and letters a reading holds, each counted each time it is reached (what is shared counts as often as it is met; a slice's spare places count too). A statement '..UptoSaid' is the law's where the arguments, and the package variables that the reading takes, are together of bulk at most 1048576: NARROWER than '..Said'. Prove '..Said' where nothing that the law and all that it calls make is longer than what came in: it says more and counts as full. Else prove '..UptoSaid'. A law counts once. -/
mutual
def uptoBulk {H : Type} : DataW H → Nat
  | .lit (.string bytes) => bytes.length + 1
  | .lit _ => 1
  | .nil => 1
  | .ptr d => uptoBulk d + 1
  | .slice elems spare => uptoBulkAll elems + uptoBulkAll spare + 1
  | .agg parts => uptoBulkAll parts + 1
  | .iface _ d => uptoBulk d + 1
  | .map entries => uptoBulkEntries entries + 1
  | .held _ => 1
def uptoBulkAll {H : Type} : List (DataW H) → Nat
  | [] => 0
  | d :: r => uptoBulk d + uptoBulkAll r
def uptoBulkEntries {H : Type} : List (Lit × DataW H) → Nat
  | [] => 0
  | x :: r => uptoBulkEntry x + uptoBulkEntries r
def uptoBulkEntry {H : Type} : Lit × DataW H → Nat
  | (.string bytes, d) => bytes.length + uptoBulk d + 1
  | (_, d) => uptoBulk d + 1
 end
def uptoSmall : (H : Type) → List (DataW H) → Bool := fun _ ds => decide (uptoBulkAll ds ≤ 1048576)
def OpenSpec.upto (s : _root_.Go.ChangeSpec) : _root_.Go.OpenSpec := { _root_.Go.OpenSpec.ofChange s with cond := some uptoSmall }

/-- 'laws.FnExactApplyAction', WHERE WHAT IT READS IS OF BULK AT MOST 1048576: true; the input reads as it did. -/
def fnExactApplyActionUptoRow : OpenClaim := { program := "ytiedecncmihbeaagreat", sum := "f8ccbe1ece582a3a1168d1d7a0de2c0dce8afe50aa11f5297bc31ccfa7927049", func := "loop.example/g00897/laws.FnExactApplyAction", spec := "fnExactApplyAction", inPlace := ["slices.overlaps[loop.example/g00897/impl.Light]"], unfollowed := true, recurses := true, apart := false, narrowed := true }
def FnExactApplyActionUptoSaid : Prop := fnExactApplyActionUptoRow.holds Tryz.pinned (OpenSpec.upto fnExactApplyActionSpec)

/-- 'laws.FnExactInverseAction', WHERE WHAT IT READS IS OF BULK AT MOST 1048576: true; the input reads as it did. -/
def fnExactInverseActionUptoRow : OpenClaim := { program := "ytiedecncmihbeaagreat", sum := "f8ccbe1ece582a3a1168d1d7a0de2c0dce8afe50aa11f5297bc31ccfa7927049", func := "loop.example/g00897/laws.FnExactInverseAction", spec := "fnExactInverseAction", inPlace := ["slices.overlaps[loop.example/g00897/impl.Light]"], unfollowed := true, recurses := true, apart := false, narrowed := true }
def FnExactInverseActionUptoSaid : Prop := fnExactInverseActionUptoRow.holds Tryz.pinned (OpenSpec.upto fnExactInverseActionSpec)

/-- 'laws.FnExactApplyActions', WHERE WHAT IT READS IS OF BULK AT MOST 1048576: true; the input reads as it did. -/
def fnExactApplyActionsUptoRow : OpenClaim := { program := "ytiedecncmihbeaagreat", sum := "f8ccbe1ece582a3a1168d1d7a0de2c0dce8afe50aa11f5297bc31ccfa7927049", func := "loop.example/g00897/laws.FnExactApplyActions", spec := "fnExactApplyActions", inPlace := ["slices.overlaps[loop.example/g00897/impl.Light]"], unfollowed := true, recurses := true, apart := false, narrowed := true }
def FnExactApplyActionsUptoSaid : Prop := fnExactApplyActionsUptoRow.holds Tryz.pinned (OpenSpec.upto fnExactApplyActionsSpec)

/-- 'laws.FnExactStepChange', WHERE WHAT IT READS IS OF BULK AT MOST 1048576: true; the input reads as it did. -/
def fnExactStepChangeUptoRow : OpenClaim := { program := "ytiedecncmihbeaagreat", sum := "f8ccbe1ece582a3a1168d1d7a0de2c0dce8afe50aa11f5297bc31ccfa7927049", func := "loop.example/g00897/laws.FnExactStepChange", spec := "fnExactStepChange", inPlace := ["slices.overlaps[loop.example/g00897/impl.Light]"], unfollowed := true, recurses := true, apart := false, narrowed := true }
def FnExactStepChangeUptoSaid : Prop := fnExactStepChangeUptoRow.holds Tryz.pinned (OpenSpec.upto fnExactStepChangeSpec)

/-- 'laws.FnExactRunChange', WHERE WHAT IT READS IS OF BULK AT MOST 1048576: true; the input reads as it did. -/
def fnExactRunChangeUptoRow : OpenClaim := { program := "ytiedecncmihbeaagreat", sum := "f8ccbe1ece582a3a1168d1d7a0de2c0dce8afe50aa11f5297bc31ccfa7927049", func := "loop.example/g00897/laws.FnExactRunChange", spec := "fnExactRunChange", inPlace := ["slices.overlaps[loop.example/g00897/impl.Light]"], unfollowed := true, recurses := true, apart := false, narrowed := true }
def FnExactRunChangeUptoSaid : Prop := fnExactRunChangeUptoRow.holds Tryz.pinned (OpenSpec.upto fnExactRunChangeSpec)

/-- 'laws.FnInverses', WHERE WHAT IT READS IS OF BULK AT MOST 1048576: true; the input reads as it did. -/
def fnInversesUptoRow : OpenClaim := { program := "ytiedecncmihbeaagreat", sum := "f8ccbe1ece582a3a1168d1d7a0de2c0dce8afe50aa11f5297bc31ccfa7927049", func := "loop.example/g00897/laws.FnInverses", spec := "fnInverses", inPlace := ["slices.overlaps[loop.example/g00897/impl.Light]"], unfollowed := true, recurses := true, apart := false, narrowed := true }
def FnInversesUptoSaid : Prop := fnInversesUptoRow.holds Tryz.pinned (OpenSpec.upto fnInversesSpec)

/-- 'laws.FnChanges', WHERE WHAT IT READS IS OF BULK AT MOST 1048576: true; the input reads as it did. -/
def fnChangesUptoRow : OpenClaim := { program := "ytiedecncmihbeaagreat", sum := "f8ccbe1ece582a3a1168d1d7a0de2c0dce8afe50aa11f5297bc31ccfa7927049", func := "loop.example/g00897/laws.FnChanges", spec := "fnChanges", inPlace := ["slices.overlaps[loop.example/g00897/impl.Light]"], unfollowed := true, recurses := true, apart := false, narrowed := true }
def FnChangesUptoSaid : Prop := fnChangesUptoRow.holds Tryz.pinned (OpenSpec.upto fnChangesSpec)

/-- 'laws.FnLights', WHERE WHAT IT READS IS OF BULK AT MOST 1048576: true; the input reads as it did. -/
def fnLightsUptoRow : OpenClaim := { program := "ytiedecncmihbeaagreat", sum := "f8ccbe1ece582a3a1168d1d7a0de2c0dce8afe50aa11f5297bc31ccfa7927049", func := "loop.example/g00897/laws.FnLights", spec := "fnLights", inPlace := ["slices.overlaps[loop.example/g00897/impl.Light]"], unfollowed := true, recurses := true, apart := false, narrowed := true }
def FnLightsUptoSaid : Prop := fnLightsUptoRow.holds Tryz.pinned (OpenSpec.upto fnLightsSpec)

end Rows
end Go.Proofs.YtiedecncmihbeaaGreat
