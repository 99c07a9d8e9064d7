/- FnPower holds for every input: the walk (by program), the plain law and the row, joined. No condition. -/
import Derived.Test.YtijgfgfolkbkoaaRd
import Derived.Test.YtijgfgfolkbkoaaW
import Derived.Test.YtijgfgfolkbkoaaPFnPower
set_option linter.unusedVariables false
set_option maxRecDepth 100000
namespace Go.Proofs.Ytijgfgfolkbkoaa.fnPower
open Go.ChangeShapes Go.WideShapes Go.ChangeAt Go.RowKit
theorem lifted (os : Os) (started : os.Started) (H : Type) (enc : TypeId × Value → H) :
    ReturnsInHanded {} Try.checked os 23 .any (Rows.fnPowerSpec.pre6 enc Try.prog Try.f23 Rows.fnPowerRow.domain false) (Rows.fnPowerSpec.post enc Try.prog Try.f23 false true false false) := by
  refine returnsInHanded_of_change (C := Try.checked) AT.own started (by kernel_rfl) Try.func23
    (ChangeSpec.witness6 (enc := enc) (C := Try.checked) false ⟨#[], #[(.slice none 0 0)], []⟩ 8 (by kernel_rfl) (by kernel_rfl) (by kernel_rfl) (by kernel_rfl)) ?_
  intro W base args ds gs before hval0 hW hcnd _
  have hval : ∀ (j : Nat) t v, Try.f23.params[j]? = some t → args[j]? = some v → Value.okWide Try.prog W .any base t v := hval0
  have hW' := hW
  obtain ⟨p, q, hA0, hV, rfl, hfz, hnd⟩ := hW
  have hA : DataW.TrodAll enc Try.prog W 0 (fun _ => true) true Try.f23.params.toList args.toList ds p := hA0
  rw [Try.params23] at hA hval
  obtain ⟨v0, vs0, d0, ds0, p0, q0, hargs, rfl, rfl, h0, r0⟩ := trodAll_cons hA
  obtain ⟨rfl, rfl, rfl⟩ := trodAll_nil r0
  obtain rfl : args = #[v0] := by cases args; simp_all
  obtain ⟨rfl, rfl⟩ := trodVars_none hV
  have k0 := h0
  have lt0 : ∀ x ∈ p0, x.block < W.heap.size := by obtain ⟨m, hm⟩ := k0; exact DataW.trod_lt m _ _ _ hm
  obtain ⟨x0, y0, o0⟩ := AT.rdv_one AT.rd83 rfl (AT.cells_slice Try.underlying83 (hval 0 83 v0 rfl rfl)) h0
  clear hA0 hval0
  obtain ⟨fu, hF⟩ := AT.FnPower_true x0 o0
  refine (AT.laws_FnPower_ok y0 hF).mono fun e W' ⟨v, he, bel, hv⟩ => ?_
  obtain rfl := AT.VR_bool hv
  subst he
  exact ⟨_, rfl, _, _, _, [], _, [], hW', trodAll_mk1 (shut_bool Try.underlying4 _), (trodAll_cons_mk (Below.trod AT.laidOut (by kernel_rfl) (of_decide_eq_true (by kernel_rfl)) k0 bel lt0) trodAll_mk0), rfl, bel.frame _, fun h => by cases h⟩

theorem closed : joinedFacts Try.prog 23 Try.f23 Rows.fnPowerSpec Rows.fnPowerRow = true := by
  unfold joinedFacts
  repeat (refine AT.ai ?_ (by first | with_reducible exact AT.enters | (rw [AT.makes]; rfl) | (rw [AT.lifts]; rfl) | with_reducible exact AT.heard | with_reducible exact AT.rowed | with_reducible exact AT.laidOut | as_aux_lemma => kernel_rfl))
  kernel_rfl

theorem over : Rows.fnPowerRow.holds Try.pinned (OpenSpec.ofChange Rows.fnPowerSpec) :=
  OpenClaim.holds_of_wide 23 Try.f23 rfl rfl rfl rfl rfl rfl rfl ⟨rfl, rfl, rfl, rfl, rfl⟩ rfl rfl rfl rfl rfl (by as_aux_lemma => kernel_rfl) Try.func23
    closed (of_decide_eq_true (by kernel_rfl)) (by unfold Func.isWrapper; first | (rw [if_pos (by decide +kernel)]; kernel_rfl) | (rw [if_neg (by decide +kernel)]; exact ⟨rfl, rfl⟩))
    (fun os started H enc _ => lifted os started H enc)

theorem proved : Rows.FnPowerSaid := over
#print axioms proved
end Go.Proofs.Ytijgfgfolkbkoaa.fnPower
