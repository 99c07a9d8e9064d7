/- Readings of bytes and unsigned numbers. -/
import Derived.Test.YtokhhjepjbhhpaaGreatAtD
import Derived.Test.YtokhhjepjbhhpaaGreatAtW
namespace AT
open Go Go.RowKit
theorem rd_by {P : Program} {t : TypeId} (ht : P.underlying t = some (.int .u8)) : Rd P t By (fun x => 0 ≤ x.n ∧ x.n ≤ 255) := by
  intro H enc w base spare held fuel cs x h
  obtain ⟨n, rfl, -, hw⟩ := DataW.trod_int ht h
  refine ⟨⟨n⟩, rfl, ?_⟩
  simp [Lit.wf, IntKind.min, IntKind.max, IntKind.signed, IntKind.bits] at hw
  simp only
  omega
theorem rd_u64 {P : Program} {t : TypeId} (ht : P.underlying t = some (.int .u64)) : Rd P t U64 (fun x => 0 ≤ x.n ∧ x.n ≤ 18446744073709551615) := by
  intro H enc w base spare held fuel cs x h
  obtain ⟨n, rfl, -, hw⟩ := DataW.trod_int ht h
  refine ⟨⟨n⟩, rfl, ?_⟩
  simp [Lit.wf, IntKind.min, IntKind.max, IntKind.signed, IntKind.bits] at hw
  simp only
  omega
end AT
