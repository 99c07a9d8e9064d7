/- FnExactRunChange holds for every input: the walk (by program), the plain law and the row, joined. No condition. -/
import Derived.Test.YtiedecncmihbeaaGreatRd
import Derived.Test.YtiedecncmihbeaaGreatWFnExactRunChange
import Derived.Test.YtiedecncmihbeaaGreatPFnExactRunChange
set_option linter.unusedVariables false
set_option maxRecDepth 100000
namespace Go.Proofs.YtiedecncmihbeaaGreat.fnExactRunChange
open Go.ChangeShapes Go.WideShapes Go.ChangeAt Go.RowKit
theorem lifted (os : Os) (started : os.Started) (H : Type) (enc : TypeId × Value → H) :
    ReturnsInHanded {} Tryz.checked os 7 .any (Rows.fnExactRunChangeSpec.pre6 enc Tryz.prog Tryz.f7 Rows.fnExactRunChangeRow.domain false) (Rows.fnExactRunChangeSpec.post enc Tryz.prog Tryz.f7 false true false false) := by
  refine returnsInHanded_of_change (C := Tryz.checked) AT.own started (by kernel_rfl) Tryz.func7
    (ChangeSpec.witness6 (enc := enc) (C := Tryz.checked) false ⟨#[], #[.agg #[(.slice none 0 0), (.slice none 0 0), (.slice none 0 0), (.slice none 0 0), (.slice none 0 0), (.bool false)], (.int .i64 0)], []⟩ 8 (by kernel_rfl) (by kernel_rfl) (by kernel_rfl) (by kernel_rfl)) ?_
  intro W base args ds gs before hval0 hW hcnd _
  have hval : ∀ (j : Nat) t v, Tryz.f7.params[j]? = some t → args[j]? = some v → Value.okWide Tryz.prog W .any base t v := hval0
  have hW' := hW
  obtain ⟨p, q, hA0, hV, rfl, hfz, hnd⟩ := hW
  have hA : DataW.TrodAll enc Tryz.prog W 0 (fun _ => true) true Tryz.f7.params.toList args.toList ds p := hA0
  rw [Tryz.params7] at hA hval
  obtain ⟨v0, vs0, d0, ds0, p0, q0, hargs, rfl, rfl, h0, r0⟩ := trodAll_cons hA
  obtain ⟨v1, vs1, d1, ds1, p1, q1, rfl, rfl, rfl, h1, r1⟩ := trodAll_cons r0
  obtain ⟨rfl, rfl, rfl⟩ := trodAll_nil r1
  obtain rfl : args = #[v0, v1] := by cases args; simp_all
  obtain ⟨rfl, rfl⟩ := trodVars_none hV
  have k0 := h0
  have lt0 : ∀ x ∈ p0, x.block < W.heap.size := by obtain ⟨m, hm⟩ := k0; exact DataW.trod_lt m _ _ _ hm
  obtain ⟨x0, y0, o0⟩ := AT.rdv_agg AT.rd73 rfl (okWide_struct Tryz.underlying73 (hval 0 73 v0 rfl rfl)) h0
  have k1 := h1
  have lt1 : ∀ x ∈ p1, x.block < W.heap.size := by obtain ⟨m, hm⟩ := k1; exact DataW.trod_lt m _ _ _ hm
  obtain ⟨x1, y1, o1⟩ := AT.rdv_one AT.rd3 rfl (AT.cells_int Tryz.underlying3 (hval 1 3 v1 rfl rfl)) h1
  clear hA0 hval0
  obtain ⟨fu, hF⟩ := AT.FnExactRunChange_true x0 x1 o0 o1
  refine (AT.laws_FnExactRunChange_ok y0 y1 hF).mono fun e W' ⟨v, he, bel, hv⟩ => ?_
  obtain rfl := AT.VR_bool hv
  subst he
  exact ⟨_, rfl, _, _, _, [], _, [], hW', trodAll_mk1 (shut_bool Tryz.underlying4 _), (trodAll_cons_mk (Below.trod AT.laidOut (by kernel_rfl) (of_decide_eq_true (by kernel_rfl)) k0 bel lt0) (trodAll_cons_mk (Below.trod AT.laidOut (by kernel_rfl) (of_decide_eq_true (by kernel_rfl)) k1 bel lt1) trodAll_mk0)), rfl, bel.frame _, fun h => by cases h⟩
set_option maxHeartbeats 4000000 in
theorem closed : joinedFacts Tryz.prog 7 Tryz.f7 Rows.fnExactRunChangeSpec Rows.fnExactRunChangeRow = true := by
  unfold joinedFacts
  iterate 31 (refine AT.ai ?_ (by first | with_reducible exact AT.enters | (rw [AT.makes]; rfl) | (rw [AT.lifts]; rfl) | with_reducible exact AT.heard | with_reducible exact AT.rowed | with_reducible exact AT.laidOut | as_aux_lemma => kernel_rfl))
  kernel_rfl
set_option maxHeartbeats 4000000 in
theorem over : Rows.fnExactRunChangeRow.holds Tryz.pinned (OpenSpec.ofChange Rows.fnExactRunChangeSpec) :=
  OpenClaim.holds_of_wide 7 Tryz.f7 rfl rfl rfl rfl rfl rfl rfl ⟨rfl, rfl, rfl, rfl, rfl⟩ rfl rfl rfl rfl rfl (by as_aux_lemma => kernel_rfl) Tryz.func7
    closed (of_decide_eq_true (by kernel_rfl)) (by unfold Func.isWrapper; first | (rw [if_pos (by decide +kernel)]; kernel_rfl) | (rw [if_neg (by decide +kernel)]; exact ⟨rfl, rfl⟩))
    (fun os started H enc _ => lifted os started H enc)
theorem proved : Rows.FnExactRunChangeSaid := over
#print axioms proved
end Go.Proofs.YtiedecncmihbeaaGreat.fnExactRunChange
