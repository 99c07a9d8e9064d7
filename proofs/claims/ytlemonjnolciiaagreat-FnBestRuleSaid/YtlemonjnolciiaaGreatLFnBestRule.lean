/- FnBestRule holds for every input: the walk (by program), the plain law and the row, joined. No condition. -/
import Derived.Test.YtlemonjnolciiaaGreatRd
import Derived.Test.YtlemonjnolciiaaGreatWFnBestRule
import Derived.Test.YtlemonjnolciiaaGreatQDServ
set_option linter.unusedVariables false
set_option maxRecDepth 100000
namespace Go.Proofs.YtlemonjnolciiaaGreat.fnBestRule
open Go.ChangeShapes Go.WideShapes Go.ChangeAt Go.RowKit
theorem lifted (os : Os) (started : os.Started) (H : Type) (enc : TypeId × Value → H) :
    ReturnsInHanded {} Tryz.checked os 9 .any (Rows.fnBestRuleSpec.pre6 enc Tryz.prog Tryz.f9 Rows.fnBestRuleRow.domain false) (Rows.fnBestRuleSpec.post enc Tryz.prog Tryz.f9 false true false false) := by
  refine returnsInHanded_of_change (C := Tryz.checked) AT.own started (by kernel_rfl) Tryz.func9
    (ChangeSpec.witness6 (enc := enc) (C := Tryz.checked) false ⟨#[], #[(.slice none 0 0)], []⟩ 8 (by kernel_rfl) (by kernel_rfl) (by kernel_rfl) (by kernel_rfl)) ?_
  intro W base args ds gs before hval0 hW hcnd _
  have hval : ∀ (j : Nat) t v, Tryz.f9.params[j]? = some t → args[j]? = some v → Value.okWide Tryz.prog W .any base t v := hval0
  have hW' := hW
  obtain ⟨p, q, hA0, hV, rfl, hfz, hnd⟩ := hW
  have hA : DataW.TrodAll enc Tryz.prog W 0 (fun _ => true) true Tryz.f9.params.toList args.toList ds p := hA0
  rw [Tryz.params9] at hA hval
  obtain ⟨v0, vs0, d0, ds0, p0, q0, hargs, rfl, rfl, h0, r0⟩ := trodAll_cons hA
  obtain ⟨rfl, rfl, rfl⟩ := trodAll_nil r0
  obtain rfl : args = #[v0] := by cases args; simp_all
  obtain ⟨rfl, rfl⟩ := trodVars_none hV
  have k0 := h0
  have lt0 : ∀ x ∈ p0, x.block < W.heap.size := by obtain ⟨m, hm⟩ := k0; exact DataW.trod_lt m _ _ _ hm
  obtain ⟨x0, y0, o0⟩ := AT.CC AT.rd22 rfl (AT.qF Tryz.underlying22 (hval 0 22 v0 rfl rfl)) h0
  clear hA0 hval0
  obtain ⟨fu, hF⟩ := AT.mq x0 o0
  refine (AT.jv y0 hF).mono fun e W' ⟨v, he, bel, hv⟩ => ?_
  obtain rfl := AT.uq hv
  subst he
  exact ⟨_, rfl, _, _, _, [], _, [], hW', trodAll_mk1 (shut_bool Tryz.underlying4 _), (trodAll_cons_mk (Below.trod AT.laidOut (by kernel_rfl) (of_decide_eq_true (by kernel_rfl)) k0 bel.go lt0) trodAll_mk0), rfl, bel.go.frame _, fun h => by cases h⟩
set_option maxHeartbeats 4000000 in
theorem closed : joinedFacts Tryz.prog 9 Tryz.f9 Rows.fnBestRuleSpec Rows.fnBestRuleRow = true := by
  unfold joinedFacts
  iterate 31 (refine AT.ai ?_ (by first | with_reducible exact AT.enters | (rw [AT.makes]; rfl) | (rw [AT.lifts]; rfl) | with_reducible exact AT.heard | with_reducible exact AT.rowed | with_reducible exact AT.laidOut | as_aux_lemma => kernel_rfl))
  kernel_rfl
set_option maxHeartbeats 4000000 in
theorem over : Rows.fnBestRuleRow.holds Tryz.pinned (OpenSpec.ofChange Rows.fnBestRuleSpec) :=
  OpenClaim.holds_of_wide 9 Tryz.f9 rfl rfl rfl rfl rfl rfl rfl ⟨rfl, rfl, rfl, rfl, rfl⟩ rfl rfl rfl rfl rfl (by as_aux_lemma => kernel_rfl) Tryz.func9
    closed (of_decide_eq_true (by kernel_rfl)) (by unfold Func.isWrapper; first | (rw [if_pos (by decide +kernel)]; kernel_rfl) | (rw [if_neg (by decide +kernel)]; exact ⟨rfl, rfl⟩))
    (fun os started H enc _ => lifted os started H enc)
theorem proved : Rows.FnBestRuleSaid := over
#print axioms proved
end Go.Proofs.YtlemonjnolciiaaGreat.fnBestRule
