/- FnExactSafeOrder holds for every input: the walk (by program), the plain law and the row, joined. No condition. -/
import Derived.Test.YtlemonjnolciiaaGreatRd
import Derived.Test.YtlemonjnolciiaaGreatWFnExactSafeOrder
import Derived.Test.YtlemonjnolciiaaGreatPFnExactSafeOrder
set_option linter.unusedVariables false
set_option maxRecDepth 100000
namespace Go.Proofs.YtlemonjnolciiaaGreat.fnExactSafeOrder
open Go.ChangeShapes Go.WideShapes Go.ChangeAt Go.RowKit
theorem lifted (os : Os) (started : os.Started) (H : Type) (enc : TypeId × Value → H) :
    ReturnsInHanded {} Tryz.checked os 6 .any (Rows.fnExactSafeOrderSpec.pre6 enc Tryz.prog Tryz.f6 Rows.fnExactSafeOrderRow.domain false) (Rows.fnExactSafeOrderSpec.post enc Tryz.prog Tryz.f6 false true false false) := by
  refine returnsInHanded_of_change (C := Tryz.checked) AT.own started (by kernel_rfl) Tryz.func6
    (ChangeSpec.witness6 (enc := enc) (C := Tryz.checked) false ⟨#[], #[.agg #[(.slice none 0 0), (.slice none 0 0), (.slice none 0 0)], .agg #[(.slice none 0 0), (.slice none 0 0), (.slice none 0 0)]], []⟩ 8 (by kernel_rfl) (by kernel_rfl) (by kernel_rfl) (by kernel_rfl)) ?_
  intro W base args ds gs before hval0 hW hcnd _
  have hval : ∀ (j : Nat) t v, Tryz.f6.params[j]? = some t → args[j]? = some v → Value.okWide Tryz.prog W .any base t v := hval0
  have hW' := hW
  obtain ⟨p, q, hA0, hV, rfl, hfz, hnd⟩ := hW
  have hA : DataW.TrodAll enc Tryz.prog W 0 (fun _ => true) true Tryz.f6.params.toList args.toList ds p := hA0
  rw [Tryz.params6] at hA hval
  obtain ⟨v0, vs0, d0, ds0, p0, q0, hargs, rfl, rfl, h0, r0⟩ := trodAll_cons hA
  obtain ⟨v1, vs1, d1, ds1, p1, q1, rfl, rfl, rfl, h1, r1⟩ := trodAll_cons r0
  obtain ⟨rfl, rfl, rfl⟩ := trodAll_nil r1
  obtain rfl : args = #[v0, v1] := by cases args; simp_all
  obtain ⟨rfl, rfl⟩ := trodVars_none hV
  have k0 := h0
  have lt0 : ∀ x ∈ p0, x.block < W.heap.size := by obtain ⟨m, hm⟩ := k0; exact DataW.trod_lt m _ _ _ hm
  obtain ⟨x0, y0, o0⟩ := AT.lW AT.rd80 rfl (okWide_struct Tryz.underlying80 (hval 0 80 v0 rfl rfl)) h0
  have k1 := h1
  have lt1 : ∀ x ∈ p1, x.block < W.heap.size := by obtain ⟨m, hm⟩ := k1; exact DataW.trod_lt m _ _ _ hm
  obtain ⟨x1, y1, o1⟩ := AT.lW AT.rd80 rfl (okWide_struct Tryz.underlying80 (hval 1 80 v1 rfl rfl)) h1
  clear hA0 hval0
  obtain ⟨fu, hF⟩ := AT.cN x0 x1 o0 o1
  refine (AT.bT y0 y1 hF).mono fun e W' ⟨v, he, bel, hv⟩ => ?_
  obtain rfl := AT.ui hv
  subst he
  exact ⟨_, rfl, _, _, _, [], _, [], hW', trodAll_mk1 (shut_bool Tryz.underlying4 _), (trodAll_cons_mk (Below.trod AT.laidOut (by kernel_rfl) (of_decide_eq_true (by kernel_rfl)) k0 bel.go lt0) (trodAll_cons_mk (Below.trod AT.laidOut (by kernel_rfl) (of_decide_eq_true (by kernel_rfl)) k1 bel.go lt1) trodAll_mk0)), rfl, bel.go.frame _, fun h => by cases h⟩
set_option maxHeartbeats 4000000 in
theorem closed : joinedFacts Tryz.prog 6 Tryz.f6 Rows.fnExactSafeOrderSpec Rows.fnExactSafeOrderRow = true := by
  unfold joinedFacts
  iterate 31 (refine AT.ai ?_ (by first | with_reducible exact AT.enters | (rw [AT.makes]; rfl) | (rw [AT.lifts]; rfl) | with_reducible exact AT.heard | with_reducible exact AT.rowed | with_reducible exact AT.laidOut | as_aux_lemma => kernel_rfl))
  kernel_rfl
set_option maxHeartbeats 4000000 in
theorem over : Rows.fnExactSafeOrderRow.holds Tryz.pinned (OpenSpec.ofChange Rows.fnExactSafeOrderSpec) :=
  OpenClaim.holds_of_wide 6 Tryz.f6 rfl rfl rfl rfl rfl rfl rfl ⟨rfl, rfl, rfl, rfl, rfl⟩ rfl rfl rfl rfl rfl (by as_aux_lemma => kernel_rfl) Tryz.func6
    closed (of_decide_eq_true (by kernel_rfl)) (by unfold Func.isWrapper; first | (rw [if_pos (by decide +kernel)]; kernel_rfl) | (rw [if_neg (by decide +kernel)]; exact ⟨rfl, rfl⟩))
    (fun os started H enc _ => lifted os started H enc)
theorem proved : Rows.FnExactSafeOrderSaid := over
#print axioms proved
end Go.Proofs.YtlemonjnolciiaaGreat.fnExactSafeOrder
