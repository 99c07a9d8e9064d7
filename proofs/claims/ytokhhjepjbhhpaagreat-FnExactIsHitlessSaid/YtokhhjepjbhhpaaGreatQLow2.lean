/- The lowest place of a light, plainly: what the program's search asks. -/
import Derived.Test.YtokhhjepjbhhpaaGreatQLow
set_option linter.unusedSimpArgs false
set_option linter.unusedVariables false
namespace AT
/-- What keeps the light x from the place s. -/
def lowBad (L : List Light) (x : Light) (hit : Bool) (s : Int) : Bool := (hit && !apart (bits ⟨s, x.Block.Count⟩) (bits x.Block)) || L.any fun own => own.Id != x.Id && coll own ⟨x.Id, x.Route, ⟨s, x.Block.Count⟩⟩
theorem coll_apart (a b : Light) : coll a b = (meets a.Route.Fibers b.Route.Fibers && !apart (bits a.Block) (bits b.Block)) := by
  unfold coll apart
  rfl
theorem may_iff {p : Plan} (hF : PlanF p) (hI : PlanI p) {i : Nat} (hi : i < p.Lights.length) (hit : Bool) {s : Int} (h0 : 0 ≤ s) (h1 : s < (gd p.Lights i l0).Block.First) :
    mayLow (p.Lights.eraseIdx i) (gd p.Lights i l0) hit s ↔ lowBad p.Lights (gd p.Lights i l0) hit s = false := by
  have hx := hF.light _ (gd_mem l0 hi)
  obtain ⟨x, hxe⟩ : ∃ x, x = gd p.Lights i l0 := ⟨_, rfl⟩
  have hmem := erase_mem hi hI.ids
  rw [← hxe] at hx h1 hmem ⊢
  have hb := hx.blk
  have hb' := hb
  simp only [blkOk, Bool.and_eq_true, decide_eq_true_eq] at hb'
  have hbs : blkOk ⟨s, x.Block.Count⟩ = true := by simp only [blkOk, Bool.and_eq_true, decide_eq_true_eq]; omega
  have hap : apart (bits ⟨s, x.Block.Count⟩) (bits x.Block) = decide (s + x.Block.Count ≤ x.Block.First) := by
    rw [bits_apart hbs hb]
    rw [Bool.eq_iff_iff, decide_eq_true_eq, decide_eq_true_eq]
    simp only
    omega
  unfold mayLow lowBad
  rw [hap, Bool.or_eq_false_iff]
  constructor
  · rintro ⟨a, b⟩
    constructor
    · cases hit
      · rfl
      · simp [a rfl]
    · rw [Bool.eq_false_iff]
      intro hc
      obtain ⟨own, ho, hc⟩ := List.any_eq_true.1 hc
      simp only [Bool.and_eq_true, bne_iff_ne, ne_eq, coll_apart, Bool.not_eq_true'] at hc
      exact b own ((hmem own).2 ⟨ho, hc.1⟩) hc.2
  · rintro ⟨a, b⟩
    constructor
    · intro h
      subst h
      simpa using a
    · intro y hy hc
      rw [Bool.eq_false_iff] at b
      have := (hmem y).1 hy
      refine b (List.any_eq_true.2 ⟨y, this.1, ?_⟩)
      simp only [Bool.and_eq_true, bne_iff_ne, ne_eq, coll_apart, Bool.not_eq_true']
      exact ⟨this.2, hc⟩
/-- A loop that looks for the first place below F that is not bad. -/
theorem low_scan {bad : Int → Bool} {F : Int} (hF : F ≤ 24) {G : Nat → Int → Option (Out Int Int)} (hG : ∀ fk s, 0 ≤ s → s < F → G (fk + 1) s = if bad s = true then G fk (w64 (s + 1)) else some (.ret s)) (hz : ∀ fk, G (fk + 1) F = some (.next F)) :
    ∀ (fk : Nat) (s : Int), 0 ≤ s → s ≤ F → (∀ t, 0 ≤ t → t < s → bad t = true) → (F - s).toNat < fk → (∃ r, G fk s = some (.ret r) ∧ 0 ≤ r ∧ r < F ∧ bad r = false ∧ ∀ t, 0 ≤ t → t < r → bad t = true) ∨ (G fk s = some (.next F) ∧ ∀ t, 0 ≤ t → t < F → bad t = true) := by
  intro fk
  induction fk with
  | zero => intro s _ _ _ h; omega
  | succ fk ih =>
    intro s h0 h1 hp hk
    by_cases h : s < F
    · rw [hG fk s h0 h]
      rcases Bool.eq_false_or_eq_true (bad s) with hb | hb
      · rw [if_pos hb, w64_in (by omega) (by omega)]
        refine ih (s + 1) (by omega) (by omega) (fun t t0 t1 => ?_) (by omega)
        by_cases ht : t < s
        · exact hp t t0 ht
        · obtain rfl : t = s := by omega
          exact hb
      · rw [if_neg (by rw [hb]; decide)]
        exact .inl ⟨s, rfl, h0, h, hb, hp⟩
    · obtain rfl : s = F := by omega
      rw [hz]
      exact .inr ⟨rfl, hp⟩
theorem low_of {p : Plan} (hF : PlanF p) (hI : PlanI p) {i : Nat} (hi : i < p.Lights.length) (hit : Bool) {r : Int}
    (h : (0 ≤ r ∧ r < (gd p.Lights i l0).Block.First ∧ lowBad p.Lights (gd p.Lights i l0) hit r = false ∧ ∀ t, 0 ≤ t → t < r → lowBad p.Lights (gd p.Lights i l0) hit t = true) ∨ (r = (gd p.Lights i l0).Block.First ∧ ∀ t, 0 ≤ t → t < (gd p.Lights i l0).Block.First → lowBad p.Lights (gd p.Lights i l0) hit t = true)) :
    Low (mayLow (p.Lights.eraseIdx i) (gd p.Lights i l0) hit) (gd p.Lights i l0).Block.First r := by
  rcases h with ⟨a, b, c, d⟩ | ⟨a, b⟩
  · refine .inl ⟨a, b, (may_iff hF hI hi hit a b).2 c, fun s s0 s1 hm => ?_⟩
    have := (may_iff hF hI hi hit s0 (by omega)).1 hm
    rw [d s s0 s1] at this
    cases this
  · refine .inr ⟨a, fun s s0 s1 hm => ?_⟩
    have := (may_iff hF hI hi hit s0 s1).1 hm
    rw [b s s0 s1] at this
    cases this
end AT
