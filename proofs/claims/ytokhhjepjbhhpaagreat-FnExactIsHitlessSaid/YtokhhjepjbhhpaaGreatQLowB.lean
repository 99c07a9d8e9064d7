/- The lowest place of a light, plainly: the program's and the reference's are one. -/
import Derived.Test.YtokhhjepjbhhpaaGreatQLow2
set_option linter.unusedSimpArgs false
set_option linter.unusedVariables false
namespace AT
theorem containsL_eq {fu : Nat} (hfu : 2097153 ≤ fu) {n : Network} (l : List Light) (x m : Light) (hl : l.length ≤ 2097152) (hL : ∀ y ∈ l, LightF n y) (hm : LightF n m) : slices_ContainsFunc_impl_Light_impl_Light_of_lowest_c1 fu l x m = some (l.any fun own => own.Id != x.Id && coll own m) := by
  unfold slices_ContainsFunc_impl_Light_impl_Light_of_lowest_c1 slices_IndexFunc_impl_Light_impl_Light_of_lowest_c1
  rw [scan_all (l := l) (G := slices_IndexFunc_impl_Light_impl_Light_of_lowest_c1_L1 fu l x m) (fun own => own.Id != x.Id && coll own m) (fun i => (i : Int)) (by omega)
    (fun fk i hi => by
      have h' : (i : Int) < (l.length : Int) := by omega
      rw [slices_IndexFunc_impl_Light_impl_Light_of_lowest_c1_L1]
      simp only [h', decide_true, if_true, idx_in hi, Option.bind_some, impl_lowest_c1, collide_eq hfu (hL _ (List.getElem_mem hi)) hm]
      cases hc : (l[i].Id != x.Id) <;> simp)
    (fun fk => by rw [slices_IndexFunc_impl_Light_impl_Light_of_lowest_c1_L1, if_neg (by simp)]) fu (by omega)]
  cases l.any fun own => own.Id != x.Id && coll own m <;> simp [Out.on]
theorem implLow {fu : Nat} (hfu : 2097153 ≤ fu) (p : Plan) (hF : PlanF p) (hI : PlanI p) {i : Nat} (hi : i < p.Lights.length) (hit : Bool) : ∃ r, impl_lowest fu p i hit = some r ∧ Low (mayLow (p.Lights.eraseIdx i) (gd p.Lights i l0) hit) (gd p.Lights i l0).Block.First r ∧ 0 ≤ r ∧ r ≤ (gd p.Lights i l0).Block.First := by
  have hx := hF.light _ (gd_mem l0 hi)
  have hlow := fun r => low_of hF hI hi hit (r := r)
  have hs := hF.short
  unfold impl_lowest
  rw [idx_gd l0 hi, Option.bind_some]
  obtain ⟨x, hxe⟩ : ∃ x, x = gd p.Lights i l0 := ⟨_, rfl⟩
  rw [← hxe] at hx hlow ⊢
  have hb := hx.blk
  have hb' := hb
  simp only [blkOk, Bool.and_eq_true, decide_eq_true_eq] at hb'
  have hG : ∀ fk s, 0 ≤ s → s < x.Block.First → impl_lowest_L1 fu p hit x (fk + 1) s = if lowBad p.Lights x hit s = true then impl_lowest_L1 fu p hit x fk (w64 (s + 1)) else some (.ret s) := fun fk s h0 h1 => by
    have hbs : blkOk ⟨s, x.Block.Count⟩ = true := by simp only [blkOk, Bool.and_eq_true, decide_eq_true_eq]; omega
    have hmv : LightF p.Network ⟨x.Id, x.Route, ⟨s, x.Block.Count⟩⟩ := ⟨hx.nodup, hx.short, hbs, hx.route, hx.id⟩
    rw [impl_lowest_L1]
    unfold lowBad
    simp only [h1, decide_true, if_true, maskOf_eq hbs, maskOf_eq hb, Option.bind_some, containsL_eq hfu p.Lights x _ (by omega) hF.light hmv]
    obtain ⟨c, hc⟩ : ∃ c, c = apart (bits ⟨s, x.Block.Count⟩) (bits x.Block) := ⟨_, rfl⟩
    have hcb : (band (bits ⟨s, x.Block.Count⟩) (bits x.Block) != 0) = !c := by rw [hc]; rfl
    obtain ⟨d, hd⟩ : ∃ d, d = p.Lights.any fun own => own.Id != x.Id && coll own ⟨x.Id, x.Route, ⟨s, x.Block.Count⟩⟩ := ⟨_, rfl⟩
    simp only [hcb, ← hc, ← hd]
    cases hit <;> cases c <;> cases d <;> rfl
  rcases low_scan (F := x.Block.First) (by omega) hG (fun fk => by rw [impl_lowest_L1, if_neg (by simp)]) fu 0 (by omega) (by omega) (fun t h0 h1 => by omega) (by omega) with ⟨r, g1, g2, g3, g4, g5⟩ | ⟨g1, g2⟩
  · rw [g1]
    exact ⟨r, rfl, hlow r (.inl ⟨g2, g3, g4, g5⟩), g2, by omega⟩
  · rw [g1]
    exact ⟨_, rfl, hlow _ (.inr ⟨rfl, g2⟩), by omega, by omega⟩
theorem lowBoth {fu : Nat} (hfu : 2097153 ≤ fu) (p : Plan) (hB : PlanB p) (hF : PlanF p) (hI : PlanI p) {i : Nat} (hi : i < p.Lights.length) (hit : Bool) : ∃ r, spec_l21Lowest fu p i hit = some r ∧ impl_lowest fu p i hit = some r ∧ 0 ≤ r ∧ r ≤ (gd p.Lights i l0).Block.First := by
  obtain ⟨r, h1, h2⟩ := specLow hfu p hB hF hi hit
  obtain ⟨r', h3, h4, h5, h6⟩ := implLow hfu p hF hI hi hit
  obtain rfl := h2.uniq h4
  exact ⟨r, h1, h3, h5, h6⟩
end AT
