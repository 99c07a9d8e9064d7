/- Actions applied to plans, plainly: the program's and the reference's are one. -/
import Derived.Test.YtiedecncmihbeaaGreatQAct0
import Derived.Test.YtiedecncmihbeaaGreatQDefr
set_option linter.unusedSimpArgs false
set_option linter.unusedVariables false
namespace AT
/-! ### Equal lists, equal lights -/
theorem eq_any {a b : List Int} (h : a.length = b.length) : (List.range a.length).any (fun i => gd a i 0 != gd b i 0) = !decide (a = b) := by
  rw [Bool.eq_iff_iff, List.any_eq_true]
  simp only [List.mem_range, bne_iff_ne, ne_eq, Bool.not_eq_true', decide_eq_false_iff_not]
  constructor
  · rintro ⟨i, hi, hne⟩ rfl
    exact hne rfl
  · intro hne
    rcases Classical.em (∃ i, i < a.length ∧ ¬ gd a i 0 = gd b i 0) with h1 | h1
    · exact h1
    · refine absurd (List.ext_getElem h fun i h2 h3 => ?_) hne
      rcases Classical.em (a[i] = b[i]) with h4 | h4
      · exact h4
      · exact absurd ⟨i, h2, by rw [gd_in 0 h2, gd_in 0 h3]; exact h4⟩ h1
theorem l1Same_eq {fu : Nat} (hfu : 2097153 ≤ fu) (a b : List Int) (ha : a.length ≤ 2097152) : spec_l1Same fu a b = some (decide (a = b)) := by
  unfold spec_l1Same
  by_cases h : a.length = b.length
  · have h1 : ((a.length : Int) != (b.length : Int)) = false := by rw [h]; simp
    rw [h1, if_neg Bool.false_ne_true]
    rw [scan_all (l := List.range a.length) (G := spec_l1Same_L1 fu a b) (fun i => gd a i 0 != gd b i 0) (fun _ => false) (by simp; omega)
      (fun fk i hi => by
        have hi' : i < a.length := by simpa using hi
        have h' : (i : Int) < (a.length : Int) := by omega
        rw [spec_l1Same_L1, List.getElem_range]
        simp only [h', decide_true, if_true, idx_gd 0 hi', idx_gd 0 (show i < b.length by omega), Option.bind_some])
      (fun fk => by rw [List.length_range, spec_l1Same_L1, if_neg (by simp)]) fu (by simp; omega), eq_any h]
    cases decide (a = b) <;> rfl
  · have h1 : ((a.length : Int) != (b.length : Int)) = true := by simp; omega
    have h2 : ¬ a = b := fun e => h (by rw [e])
    rw [h1, if_pos rfl, decide_eq_false h2]
theorem equalI_eq {fu : Nat} (hfu : 2097153 ≤ fu) (a b : List Int) (ha : a.length ≤ 2097152) : slices_Equal_int_int fu a b = some (decide (a = b)) := by
  unfold slices_Equal_int_int
  by_cases h : a.length = b.length
  · have h1 : ((a.length : Int) != (b.length : Int)) = false := by rw [h]; simp
    rw [h1, if_neg Bool.false_ne_true]
    rw [scan_all (l := List.range a.length) (G := slices_Equal_int_int_L1 fu a b) (fun i => gd a i 0 != gd b i 0) (fun _ => false) (by simp; omega)
      (fun fk i hi => by
        have hi' : i < a.length := by simpa using hi
        have h' : (i : Int) < (a.length : Int) := by omega
        rw [slices_Equal_int_int_L1, List.getElem_range]
        simp only [h', decide_true, if_true, idx_gd 0 hi', idx_gd 0 (show i < b.length by omega), Option.bind_some])
      (fun fk => by rw [List.length_range, slices_Equal_int_int_L1, if_neg (by simp)]) fu (by simp; omega), eq_any h]
    cases decide (a = b) <;> rfl
  · have h1 : ((a.length : Int) != (b.length : Int)) = true := by simp; omega
    have h2 : ¬ a = b := fun e => h (by rw [e])
    rw [h1, if_pos rfl, decide_eq_false h2]
theorem light_ext (x y : Light) : x = y ↔ x.Id = y.Id ∧ x.Route.Start = y.Route.Start ∧ x.Route.Fibers = y.Route.Fibers ∧ x.Block.First = y.Block.First ∧ x.Block.Count = y.Block.Count := by
  rcases x with ⟨i, ⟨s, f⟩, ⟨a, c⟩⟩
  rcases y with ⟨i', ⟨s', f'⟩, ⟨a', c'⟩⟩
  simp only [Light.mk.injEq, Route.mk.injEq, Block.mk.injEq, and_assoc]
theorem l20Same_eq {fu : Nat} (hfu : 2097153 ≤ fu) (x y : Light) (hx : x.Route.Fibers.length ≤ 2097152) : spec_l20Same fu x y = some (decide (x = y)) := by
  unfold spec_l20Same spec_l4Same
  rw [l1Same_eq hfu _ _ hx]
  have e := light_ext x y
  by_cases h1 : x.Id = y.Id <;> by_cases h2 : x.Route.Start = y.Route.Start <;> by_cases h3 : x.Route.Fibers = y.Route.Fibers <;> by_cases h4 : x.Block.First = y.Block.First <;> by_cases h5 : x.Block.Count = y.Block.Count <;> simp [h1, h2, h3, h4, h5, e]
theorem equalLights_eq {fu : Nat} (hfu : 2097153 ≤ fu) (x y : Light) (hx : x.Route.Fibers.length ≤ 2097152) : impl_equalLights fu x y = some (decide (x = y)) := by
  unfold impl_equalLights
  rw [equalI_eq hfu _ _ hx]
  have e := light_ext x y
  by_cases h1 : x.Id = y.Id <;> by_cases h2 : x.Route.Start = y.Route.Start <;> by_cases h3 : x.Route.Fibers = y.Route.Fibers <;> by_cases h4 : x.Block.First = y.Block.First <;> by_cases h5 : x.Block.Count = y.Block.Count <;> simp [h1, h2, h3, h4, h5, e]
/-! ### Lights put in and taken out -/
def addP (p : Plan) (x : Light) : Plan := { Network := p.Network, Lights := putL p.Lights x }
def delP (p : Plan) (i : Nat) : Plan := { Network := p.Network, Lights := p.Lights.eraseIdx i }
def setP (p : Plan) (i : Nat) (x : Light) : Plan := { Network := p.Network, Lights := p.Lights.set i x }
theorem insAt_loop (L : List Light) (id : Int) (G : Nat → Int → Option Int) (hl : L.length ≤ 2097152) (hG : ∀ fk i, G (fk + 1) i = ((if decide (i < (L.length : Int)) = true then (idx L i).bind fun e => some (decide (e.Id < id)) else some false).bind fun c => if c = true then G fk (w64 (i + 1)) else some i)) (fu : Nat) (hfu : 2097153 ≤ fu) : G fu 0 = some ((insAt L id : Nat) : Int) :=
  find_all (l := L) (G := G) (fun y => !decide (y.Id < id)) (by omega)
    (fun fk i hi => by
      have h' : (i : Int) < (L.length : Int) := by omega
      rw [hG]
      simp only [h', decide_true, if_true, idx_in hi, Option.bind_some]
      by_cases hc : L[i].Id < id <;> simp [hc])
    (fun fk => by rw [hG]; simp) fu (by omega)
theorem l9Put_eq {fu : Nat} (hfu : 2097153 ≤ fu) (p : Plan) (x : Light) (hB : PlanB p) (hx : x.Route.Fibers.length ≤ 2097152) : spec_l9Put fu p x = some (addP p x) := by
  have hl := hB.2.1
  have hi := insAt_le p.Lights x.Id
  unfold spec_l9Put
  rw [l9Own_eq hfu p hB, Option.bind_some, insAt_loop p.Lights x.Id (spec_l9Put_L1 fu x p) hl (fun fk i => by rw [spec_l9Put_L1]) fu hfu, Option.bind_some, sub_take hi, Option.bind_some]
  have hs : sub p.Lights ((insAt p.Lights x.Id : Nat) : Int) (p.Lights.length : Int) = some (p.Lights.drop (insAt p.Lights x.Id)) := by
    unfold sub
    rw [if_pos (by omega)]
    simp
  rw [hs, Option.bind_some, app_nil (by rw [List.length_take]; omega), Option.bind_some, l9Copy_eq fu x hx, Option.bind_some, app_ok (by rw [List.length_take, List.length_singleton]; omega), Option.bind_some, app_ok (by rw [List.length_append, List.length_take, List.length_singleton, List.length_drop]; omega), Option.bind_some, List.append_assoc, List.singleton_append]
  rfl
theorem withLight_eq {fu : Nat} (hfu : 2097153 ≤ fu) (p : Plan) (x : Light) (hB : PlanB p) (hx : x.Route.Fibers.length ≤ 2097152) : impl_withLight fu p x = some (addP p x) := by
  have hl := hB.2.1
  have hi := insAt_le p.Lights x.Id
  unfold impl_withLight
  rw [copyPlan_eq hfu p hB, Option.bind_some, insAt_loop p.Lights x.Id (impl_withLight_L1 fu p x) hl (fun fk i => by rw [impl_withLight_L1]) fu hfu, Option.bind_some, copyRoute_eq fu _ hx, Option.bind_some]
  have hs : insl p.Lights ((insAt p.Lights x.Id : Nat) : Int) [({ Id := x.Id, Route := x.Route, Block := x.Block } : Light)] = some (putL p.Lights x) := by
    unfold insl
    rw [if_pos (by rw [List.length_singleton]; omega), Int.toNat_natCast]
    rfl
  rw [hs, Option.bind_some]
  rfl
theorem withoutLight_eq {fu : Nat} (hfu : 2097153 ≤ fu) (p : Plan) (hB : PlanB p) {i : Nat} (hi : i < p.Lights.length) : impl_withoutLight fu p i = some (delP p i) := by
  have hl := hB.2.1
  unfold impl_withoutLight
  rw [copyPlan_eq hfu p hB, Option.bind_some, w64_inc hi (by omega)]
  have hs : dell p.Lights (i : Int) ((i + 1 : Nat) : Int) = some (p.Lights.eraseIdx i) := by
    unfold dell
    rw [if_pos (by omega), Int.toNat_natCast, Int.toNat_natCast, List.eraseIdx_eq_take_drop_succ]
  rw [hs, Option.bind_some]
  rfl
def zeroP : Plan := ⟨⟨[], []⟩, []⟩
theorem addP_B {p : Plan} {x : Light} (hB : PlanB p) (hs : p.Lights.length ≤ 12) (hx : x.Route.Fibers.length ≤ 2097152) : PlanB (addP p x) := by
  refine ⟨hB.1, ?_, fun y hy => ?_⟩
  · show (putL p.Lights x).length ≤ 2097152
    rw [putL_len]; omega
  · rcases putL_mem.1 hy with rfl | h
    · exact hx
    · exact hB.2.2 y h
theorem delP_B {p : Plan} (hB : PlanB p) (i : Nat) : PlanB (delP p i) := by
  refine ⟨hB.1, Nat.le_trans (List.eraseIdx_sublist p.Lights i).length_le hB.2.1, fun y hy => hB.2.2 y (List.mem_of_mem_eraseIdx hy)⟩
theorem setP_B {p : Plan} {x : Light} (hB : PlanB p) (i : Nat) (hx : x.Route.Fibers.length ≤ 2097152) : PlanB (setP p i x) := by
  refine ⟨hB.1, ?_, fun y hy => ?_⟩
  · show (p.Lights.set i x).length ≤ 2097152
    rw [List.length_set]; exact hB.2.1
  · rcases List.mem_or_eq_of_mem_set hy with h | rfl
    · exact hB.2.2 y h
    · exact hx
def has_ (p : Plan) (id : Int) : Bool := p.Lights.any fun y => y.Id == id
def act (p : Plan) (a : Action) : Plan × Bool :=
  if a.Kind = 1 then (if planOk (addP p a.Light) = true then (addP p a.Light, true) else (zeroP, false))
  else if a.Kind = 2 then (if has_ p a.Light.Id = true ∧ gd p.Lights (atId p.Lights a.Light.Id) l0 = a.Light then (delP p (atId p.Lights a.Light.Id), true) else (zeroP, false))
  else if a.Kind = 3 then (if has_ p a.Light.Id = true ∧ planOk (setP p (atId p.Lights a.Light.Id) a.Light) = true then (setP p (atId p.Lights a.Light.Id) a.Light, true) else (zeroP, false))
  else (zeroP, false)
theorem nonneg_nat (n : Nat) : decide (((n : Nat) : Int) ≥ 0) = true := by simp
theorem not_neg_nat (n : Nat) : decide (((n : Nat) : Int) < 0) = false := by simp
theorem l20Apply_eq {fu : Nat} (hfu : 2097153 ≤ fu) (p : Plan) (a : Action) (hB : PlanB p) (hp : planOk p = true) (ha : a.Light.Route.Fibers.length ≤ 2097152) : spec_l20Apply fu p a = some (act p a) := by
  have hl := hB.2.1
  have hF := planF hp
  have hI := planI hp
  unfold spec_l20Apply
  rw [l9Find_eq p _ (by omega) hl, Option.bind_some]
  unfold act
  by_cases k1 : a.Kind = 1
  · simp only [k1, beq_self_eq_true, if_true]
    unfold spec_AddLight
    rw [specPlan_eq hfu p hB, hp]
    simp only [Option.bind_some, Bool.not_true, Bool.false_eq_true, if_false, l9Put_eq hfu p _ hB ha, specPlan_eq hfu _ (addP_B hB hF.short ha)]
    cases planOk (addP p a.Light) <;> rfl
  · have e1 : (a.Kind == 1) = false := by rw [beq_eq_false_iff_ne]; exact k1
    rw [e1, if_neg Bool.false_ne_true, if_neg k1]
    by_cases k2 : a.Kind = 2
    · simp only [k2, beq_self_eq_true, if_true]
      cases hh : has_ p a.Light.Id
      · have hh' : (p.Lights.any fun y => y.Id == a.Light.Id) = false := hh
        simp [hh', zeroP]
      · have hh' : (p.Lights.any fun y => y.Id == a.Light.Id) = true := hh
        have hi := atId_lt hh'
        have hr := hB.2.2 _ (gd_mem l0 hi)
        simp only [hh', if_true, nonneg_nat, idx_gd l0 hi, Option.bind_some, l20Same_eq hfu _ a.Light hr, l9Without_eq hfu p hB hi, true_and, decide_eq_true_eq]
        by_cases he : gd p.Lights (atId p.Lights a.Light.Id) l0 = a.Light
        · simp only [he, if_true, decide_true]
          rfl
        · simp only [he, if_false, decide_false, Bool.false_eq_true]
          rfl
    · have e2 : (a.Kind == 2) = false := by rw [beq_eq_false_iff_ne]; exact k2
      rw [e2, if_neg Bool.false_ne_true, if_neg k2]
      by_cases k3 : a.Kind = 3
      · simp only [k3, beq_self_eq_true, if_true]
        unfold spec_MoveLight
        rw [specPlan_eq hfu p hB, hp, l9Find_eq p _ (by omega) hl]
        simp only [Option.bind_some, Bool.not_true, Bool.false_eq_true, if_false]
        cases hh : has_ p a.Light.Id
        · have hh' : (p.Lights.any fun y => y.Id == a.Light.Id) = false := hh
          simp [hh', zeroP]
        · have hh' : (p.Lights.any fun y => y.Id == a.Light.Id) = true := hh
          have hi := atId_lt hh'
          have hs := put_erase hI.ids hi (x := a.Light) (atId_gd hh').symm
          have hput : addP (delP p (atId p.Lights a.Light.Id)) a.Light = setP p (atId p.Lights a.Light.Id) a.Light := by
            unfold addP delP setP
            rw [hs]
          have hput' : spec_l9Put fu ({ Network := p.Network, Lights := p.Lights.eraseIdx (atId p.Lights a.Light.Id) } : Plan) ({ Id := a.Light.Id, Route := a.Light.Route, Block := a.Light.Block } : Light) = some (setP p (atId p.Lights a.Light.Id) a.Light) := by
            rw [← hput]
            exact l9Put_eq hfu (delP p (atId p.Lights a.Light.Id)) a.Light (delP_B hB _) ha
          simp only [hh', if_true, not_neg_nat, Bool.false_eq_true, if_false, l9Without_eq hfu p hB hi, Option.bind_some, hput', specPlan_eq hfu _ (setP_B hB _ ha), true_and]
          cases planOk (setP p (atId p.Lights a.Light.Id) a.Light) <;> rfl
      · have e3 : (a.Kind == 3) = false := by rw [beq_eq_false_iff_ne]; exact k3
        rw [e3, if_neg Bool.false_ne_true, if_neg k3]
        rfl
theorem lightNumber_eq {fu : Nat} (hfu : 2097153 ≤ fu) (p : Plan) (id : Int) (hB : PlanB p) : impl_LightNumber fu p id = some (if planOk p = true ∧ has_ p id = true then (((atId p.Lights id : Nat) : Int), true) else (0, false)) := by
  have hl := hB.2.1
  unfold impl_LightNumber
  rw [lightAt_eq p id (by omega) hl, Option.bind_some, implPlan_eq hfu p hB, Option.bind_some]
  cases hp : planOk p
  · simp
  · cases hh : has_ p id
    · have hh' : (p.Lights.any fun y => y.Id == id) = false := hh
      simp [hh']
    · have hh' : (p.Lights.any fun y => y.Id == id) = true := hh
      simp [hh', not_neg_nat]
theorem planIf_eq {fu : Nat} (hfu : 2097153 ≤ fu) (p : Plan) (hB : PlanB p) : impl_planIf fu p = some (if planOk p = true then (p, true) else (zeroP, false)) := by
  unfold impl_planIf
  rw [implPlan_eq hfu p hB, Option.bind_some]
  cases planOk p <;> rfl
theorem apply_eq {fu : Nat} (hfu : 2097153 ≤ fu) (p : Plan) (a : Action) (hB : PlanB p) (ha : a.Light.Route.Fibers.length ≤ 2097152) : impl_ApplyAction fu p a = some (if planOk p = true then act p a else (zeroP, false)) := by
  have hl := hB.2.1
  unfold impl_ApplyAction act
  by_cases k1 : a.Kind = 1
  · simp only [k1, beq_self_eq_true, if_true]
    unfold impl_AddLight
    rw [implPlan_eq hfu p hB]
    cases hp : planOk p
    · rfl
    · have hF := planF hp
      simp only [Option.bind_some, Bool.not_true, Bool.false_eq_true, if_false, if_true, withLight_eq hfu p _ hB ha, planIf_eq hfu _ (addP_B hB hF.short ha)]
  · have e1 : (a.Kind == 1) = false := by rw [beq_eq_false_iff_ne]; exact k1
    rw [e1, if_neg Bool.false_ne_true, if_neg k1]
    by_cases k2 : a.Kind = 2
    · simp only [k2, beq_self_eq_true, if_true]
      rw [lightAt_eq p _ (by omega) hl, Option.bind_some]
      cases hh : has_ p a.Light.Id
      · have hh' : (p.Lights.any fun y => y.Id == a.Light.Id) = false := hh
        simp [hh', zeroP]
      · have hh' : (p.Lights.any fun y => y.Id == a.Light.Id) = true := hh
        have hi := atId_lt hh'
        have hr := hB.2.2 _ (gd_mem l0 hi)
        simp only [hh', if_true, nonneg_nat, idx_gd l0 hi, Option.bind_some, equalLights_eq hfu _ a.Light hr, true_and, decide_eq_true_eq]
        by_cases he : gd p.Lights (atId p.Lights a.Light.Id) l0 = a.Light
        · simp only [he, if_true, decide_true]
          unfold impl_RemoveLight
          rw [lightNumber_eq hfu p _ hB, hh]
          cases hp : planOk p
          · rfl
          · simp only [and_self, if_true, Option.bind_some, Bool.not_true, Bool.false_eq_true, if_false, withoutLight_eq hfu p hB hi]
        · simp only [he, if_false, decide_false, Bool.false_eq_true]
          cases planOk p <;> rfl
    · have e2 : (a.Kind == 2) = false := by rw [beq_eq_false_iff_ne]; exact k2
      rw [e2, if_neg Bool.false_ne_true, if_neg k2]
      by_cases k3 : a.Kind = 3
      · simp only [k3, beq_self_eq_true, if_true]
        unfold impl_MoveLight
        rw [lightNumber_eq hfu p _ hB]
        cases hp : planOk p
        · rfl
        · cases hh : has_ p a.Light.Id
          · rfl
          · have hh' : (p.Lights.any fun y => y.Id == a.Light.Id) = true := hh
            have hi := atId_lt hh'
            have hpi : impl_planIf fu ({ Network := p.Network, Lights := p.Lights.set (atId p.Lights a.Light.Id) ({ Id := a.Light.Id, Route := a.Light.Route, Block := a.Light.Block } : Light) } : Plan) = some (if planOk (setP p (atId p.Lights a.Light.Id) a.Light) = true then (setP p (atId p.Lights a.Light.Id) a.Light, true) else (zeroP, false)) := planIf_eq hfu (setP p (atId p.Lights a.Light.Id) a.Light) (setP_B hB _ ha)
            simp only [and_self, if_true, Option.bind_some, Bool.not_true, Bool.false_eq_true, if_false, copyPlan_eq hfu p hB, copyRoute_eq fu _ ha, idx_gd l0 hi, Int.toNat_natCast, hpi, true_and]
      · have e3 : (a.Kind == 3) = false := by rw [beq_eq_false_iff_ne]; exact k3
        rw [e3, if_neg Bool.false_ne_true, if_neg k3]
        cases planOk p <;> rfl
theorem act_move {p : Plan} {a : Action} (k : a.Kind = 3) (h : (act p a).2 = true) : has_ p a.Light.Id = true ∧ planOk (setP p (atId p.Lights a.Light.Id) a.Light) = true ∧ (act p a).1 = setP p (atId p.Lights a.Light.Id) a.Light := by
  unfold act at h ⊢
  rw [if_neg (by omega), if_neg (by omega), if_pos k] at h ⊢
  split at h
  · rename_i h1; rw [if_pos h1]; exact ⟨h1.1, h1.2, rfl⟩
  · cases h
end AT

