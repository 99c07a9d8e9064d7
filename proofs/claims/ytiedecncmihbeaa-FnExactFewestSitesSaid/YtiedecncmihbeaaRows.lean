/-
  No cell of these rows narrows 'for every input' (looked for: loops, veiled, ifaces, maps, wideKeys, modest, calm, conditions, laid).
  DERIVED. THE GIVEN ROWS OF THIS SEAT. 2 by the template 'for every input the law returns true; each argument reads behind the call as it read before'; 0 by the template 'total and deterministic' (their statements: YtiedecncmihbeaaTotals.lean).
  GIVEN WITH THE SEED: the statements are not yours to turn. If you find one false, say at which input.
  Laid BY PROGRAM, IN A SANDBOX (cutbox-rows.mjs): the forced cells as the released guide's own fill.sh prints them over the translation 10de3b23b7d47542… (all of the seat's roots in one cut). By AI agents, Wed Nov 11 2026. No macro, syntax, notation, axiom, sorry.
-/
import Derived.Test.YtiedecncmihbeaaChecked
import GoSem.Claim
import GoSem.ClaimJoined
import GoSem.ClaimMapViews
import Derived.JoinedTies
import Derived.KernelRfl
namespace Go.Proofs.Ytiedecncmihbeaa
/- THE CELL 'sum', in the pinned program and in every row, IS THE sha256 OF THE DUMP (.gsa) THAT YtiedecncmihbeaaProg.lean LOADS. Nothing in Lean hashes anything: it is a label: what it is worth is what the hold of that sum in a sandbox is worth. -/
noncomputable def Try.pinned : Pinned := { name := "ytiedecncmihbeaa", sum := "10de3b23b7d47542e200a299d7cd15d043a72add55a82dbd6e585230d1ecf8e8", checked := Try.checked }
namespace Rows
def none {H : Type} : Left H := { results := [], args := [] }

/-- 'laws.FnExactSitesConnect': WHATEVER THE INPUT: true; the input reads as it did. -/
def fnExactSitesConnectSpec : ChangeSpec := { name := "fnExactSitesConnect", fn := fun _ => fun
  | [d1, d2, d3] => { results := [.lit (.bool true)], args := [d1, d2, d3] }
  | _ => none }
def fnExactSitesConnectRow : OpenClaim := { program := "ytiedecncmihbeaa", sum := "10de3b23b7d47542e200a299d7cd15d043a72add55a82dbd6e585230d1ecf8e8", func := "loop.example/g00897/laws.FnExactSitesConnect", spec := "fnExactSitesConnect", apart := false }
def FnExactSitesConnectSaid : Prop := fnExactSitesConnectRow.holds Try.pinned (OpenSpec.ofChange fnExactSitesConnectSpec)

/-- ITS FALSE NEIGHBOUR: 'it returns false'. Refute it at one input. -/
def fnExactSitesConnectWrong : ChangeSpec := { name := "fnExactSitesConnect", fn := fun _ => fun
  | [d1, d2, d3] => { results := [.lit (.bool false)], args := [d1, d2, d3] }
  | _ => none }
def FnExactSitesConnectWrongFalsely : Prop := fnExactSitesConnectRow.holds Try.pinned (OpenSpec.ofChange fnExactSitesConnectWrong)

/-- 'laws.FnExactFewestSites': WHATEVER THE INPUT: true; the input reads as it did. -/
def fnExactFewestSitesSpec : ChangeSpec := { name := "fnExactFewestSites", fn := fun _ => fun
  | [d1, d2] => { results := [.lit (.bool true)], args := [d1, d2] }
  | _ => none }
def fnExactFewestSitesRow : OpenClaim := { program := "ytiedecncmihbeaa", sum := "10de3b23b7d47542e200a299d7cd15d043a72add55a82dbd6e585230d1ecf8e8", func := "loop.example/g00897/laws.FnExactFewestSites", spec := "fnExactFewestSites", unfollowed := true, recurses := true, apart := false }
def FnExactFewestSitesSaid : Prop := fnExactFewestSitesRow.holds Try.pinned (OpenSpec.ofChange fnExactFewestSitesSpec)

/-- ITS FALSE NEIGHBOUR: 'it returns false'. Refute it at one input. -/
def fnExactFewestSitesWrong : ChangeSpec := { name := "fnExactFewestSites", fn := fun _ => fun
  | [d1, d2] => { results := [.lit (.bool false)], args := [d1, d2] }
  | _ => none }
def FnExactFewestSitesWrongFalsely : Prop := fnExactFewestSitesRow.holds Try.pinned (OpenSpec.ofChange fnExactFewestSitesWrong)

/- THE SECOND FORM. 'bulk': how many values and letters a reading holds, each counted each time it is reached (what is shared counts as often as it is met; a slice's spare places count too). A statement '..UptoSaid' is the law's where the arguments, and the package variables that the reading takes, are together of bulk at most 1048576: NARROWER than '..Said'. Prove '..Said' where nothing that the law and all that it calls make is longer than what came in: it says more and counts as full. Else prove '..UptoSaid'. A law counts once. -/
mutual
def uptoBulk {H : Type} : DataW H → Nat
  | .lit (.string bytes) => bytes.length + 1
  | .lit _ => 1
  | .nil => 1
  | .ptr d => uptoBulk d + 1
  | .slice elems spare => uptoBulkAll elems + uptoBulkAll spare + 1
  | .agg parts => uptoBulkAll parts + 1
  | .iface _ d => uptoBulk d + 1
  | .map entries => uptoBulkEntries entries + 1
  | .held _ => 1
def uptoBulkAll {H : Type} : List (DataW H) → Nat
  | [] => 0
  | d :: r => uptoBulk d + uptoBulkAll r
def uptoBulkEntries {H : Type} : List (Lit × DataW H) → Nat
  | [] => 0
  | x :: r => uptoBulkEntry x + uptoBulkEntries r
def uptoBulkEntry {H : Type} : Lit × DataW H → Nat
  | (.string bytes, d) => bytes.length + uptoBulk d + 1
  | (_, d) => uptoBulk d + 1
 end
def uptoSmall : (H : Type) → List (DataW H) → Bool := fun _ ds => decide (uptoBulkAll ds ≤ 1048576)
def OpenSpec.upto (s : _root_.Go.ChangeSpec) : _root_.Go.OpenSpec := { _root_.Go.OpenSpec.ofChange s with cond := some uptoSmall }

/-- 'laws.FnExactSitesConnect', WHERE WHAT IT READS IS OF BULK AT MOST 1048576: true; the input reads as it did. -/
def fnExactSitesConnectUptoRow : OpenClaim := { program := "ytiedecncmihbeaa", sum := "10de3b23b7d47542e200a299d7cd15d043a72add55a82dbd6e585230d1ecf8e8", func := "loop.example/g00897/laws.FnExactSitesConnect", spec := "fnExactSitesConnect", apart := false, narrowed := true }
def FnExactSitesConnectUptoSaid : Prop := fnExactSitesConnectUptoRow.holds Try.pinned (OpenSpec.upto fnExactSitesConnectSpec)

/-- 'laws.FnExactFewestSites', WHERE WHAT IT READS IS OF BULK AT MOST 1048576: true; the input reads as it did. -/
def fnExactFewestSitesUptoRow : OpenClaim := { program := "ytiedecncmihbeaa", sum := "10de3b23b7d47542e200a299d7cd15d043a72add55a82dbd6e585230d1ecf8e8", func := "loop.example/g00897/laws.FnExactFewestSites", spec := "fnExactFewestSites", unfollowed := true, recurses := true, apart := false, narrowed := true }
def FnExactFewestSitesUptoSaid : Prop := fnExactFewestSitesUptoRow.holds Try.pinned (OpenSpec.upto fnExactFewestSitesSpec)

end Rows
end Go.Proofs.Ytiedecncmihbeaa
