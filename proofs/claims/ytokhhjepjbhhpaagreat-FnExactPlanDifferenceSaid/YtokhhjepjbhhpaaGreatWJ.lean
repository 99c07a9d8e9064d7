/- The walks of slices.Insert and slices.Delete, by program (gen.py). -/
import Derived.Test.YtokhhjepjbhhpaaGreatT
set_option linter.unusedVariables false
set_option linter.unusedSimpArgs false
set_option maxRecDepth 100000
namespace AT
open Go Go.RowKit Go.Proofs

set_option maxHeartbeats 1000000 in
theorem grow_spec_171 : GrowSpec Tryz.prog 171 136 6 := by
  intro w n hn
  obtain ⟨inf, hinf, hpr⟩ := Option.map_eq_some_iff.1 TF.ai136
  simp only [Prod.mk.injEq] at hpr
  obtain ⟨hz1, hz2, hz3⟩ := hpr
  refine enter Tryz.func171 rfl rfl (nle rfl) rfl fun a hf => ?_
  refine sq (reg (pr 1 hf rfl rfl fun a hf => wl_end (then_n ?_)))
  refine sq (sq (reg (pr 2 hf rfl rfl fun a hf => wl_end (then_n ?_))))
  refine cd_f hf rfl (by simp) (wp_skip (then_n ?_))
  refine sq (sq (reg (pr 2 hf rfl rfl fun a hf => wl0 rfl (op_q hf (rq_cap hf Tryz.underlying65 rfl _) rfl (by decide) fun a hf => pr 5 hf rfl rfl fun a hf => wl_end (then_n ?_)))))
  have hw : w64 ((n : Int) - w64 (((0 : Nat) : Int) - ((0 : Nat) : Int))) = (n : Int) := by
    have : w64 (((0 : Nat) : Int) - ((0 : Nat) : Int)) = 0 := by decide
    rw [this, w64_in (by omega) (by omega)]; omega
  rw [hw] at hf
  clear hw
  have hf := hf.prune [0, 1] rfl
  refine sq (reg (pr 2 hf rfl rfl fun a hf => wl_end (then_n ?_)))
  by_cases h0 : n = 0
  · subst h0
    refine cd_f hf rfl (by simp) (wp_skip (then_n ?_))
    refine sq (reg (pr 2 hf rfl rfl fun a hf => wl_end (then_n (wp_ret ?_))))
    refine ret_1 (fn := Tryz.f171) (r := .tmp 4) hf rfl (rv_tmp hf rfl) ?_
    exact ⟨_, rfl, .inl ⟨rfl, rfl⟩⟩
  · refine cd_t hf rfl (by simp; omega) ?_
    have hold : (Builtin.firstCells inf.size 0 (.slice none 0 0)).run Tryz.prog w.drew = .ok ([] : List Value).toArray w.drew := rfl
    have hap := Lib.run_append_grow_zeros (P := Tryz.prog) w 65 3 65 136 inf _ .i64 _ Tryz.underlying65 Tryz.underlying3 hinf hz1 none 0 0 [] hold n (by omega) (by rw [hz2]; decide) (by omega) (by omega) (by rw [hz3]; omega) (growslice_fits (by omega) (by rw [hz3]; omega))
    rw [Nat.zero_add] at hap
    have hGge := grownCap_ge w n 0 136
    have hGle := grownCap_le_maxLen w n 0 136 (by simp only [maxLen]; omega)
    generalize grownCap w n 0 136 = c2 at hap hGge hGle
    have hcn : cutA none 6 0 0 = none := rfl
    refine reg (pr 2 hf rfl rfl fun a hf => wl0 rfl (op_q hf (rq_cap hf Tryz.underlying65 rfl _) rfl (by decide) fun a hf => wl0 rfl (op_q hf (rq_cut hf rfl rfl rfl rfl (run_cut Tryz.underlying65 TF.sz136 fun w => b_hi (Nat.le_refl 0)) _) rfl (by decide) fun a hf => pr 1 hf rfl rfl fun a hf => ?_)))
    rw [hcn] at hf
    refine wl0 rfl (op_app_of hf rfl rfl hap (by decide) fun a hf => pr 2 hf rfl rfl fun a hf => ?_)
    have hcz : cutA (some (⟨w.heap.size, 0, none⟩ : Addr)) 6 0 c2 = some ⟨w.heap.size, 0, none⟩ := cut_zero fun p h => by injection h with h; subst h; rfl
    refine wl0 rfl (op_q hf (rq_cut hf rfl rfl rfl rfl (run_cut Tryz.underlying65 TF.sz136 fun w => b_hi (Nat.zero_le c2)) _) rfl (by decide) fun a hf => ?_)
    rw [hcz, Nat.sub_zero, Nat.sub_zero] at hf
    refine pr 1 hf rfl rfl fun a hf => wl_end (then_n ?_)
    refine sq (reg (pr 2 hf rfl rfl fun a hf => wl_end (then_n (wp_ret ?_))))
    refine ret_1 (fn := Tryz.f171) (r := .tmp 4) hf rfl (rv_tmp hf rfl) ?_
    refine ⟨_, rfl, .inr ⟨c2, (([] : List Value).toArray ++ Builtin.zeroCells (Value.cells (.agg #[(.int .i64 0), (.int .i64 0), (.int .i64 0), (.slice none 0 0), (.int .i64 0), (.int .i64 0)])) n ++ Builtin.zeroCells (Value.cells (.agg #[(.int .i64 0), (.int .i64 0), (.int .i64 0), (.slice none 0 0), (.int .i64 0), (.int .i64 0)])) (c2 - n)).toList, rfl, by rw [Array.toArray_toList], ?_, hGle⟩⟩
    rw [Array.length_toList, Array.size_append, Array.size_append, size_zeroCells, size_zeroCells, show (Value.cells (.agg #[(.int .i64 0), (.int .i64 0), (.int .i64 0), (.slice none 0 0), (.int .i64 0), (.int .i64 0)])).size = 6 from rfl, List.size_toArray, List.length_nil, Nat.zero_add, ← Nat.add_mul]
    congr 1
    omega

end AT

