/- Lists of actions applied, plainly: the program's and the reference's are one. -/
import Derived.Test.YtokhhjepjbhhpaaGreatQAct
import Derived.Test.YtokhhjepjbhhpaaGreatQChange
set_option linter.unusedSimpArgs false
set_option linter.unusedVariables false
namespace AT
def acts : List Action → Plan → Plan × Nat
  | [], p => (p, 0)
  | a :: l, p => if (act p a).2 = true then ((acts l (act p a).1).1, (acts l (act p a).1).2 + 1) else (p, 0)
def actsOut (l : List Action) (i : Nat) (q : Plan) : Out (Int × List ByteArray × List Fiber × List Light) (Plan × Int) :=
  if (acts (l.drop i) q).2 = l.length - i then .next ((l.length : Int), (acts (l.drop i) q).1.Network.Nodes, (acts (l.drop i) q).1.Network.Fibers, (acts (l.drop i) q).1.Lights) else .ret ((acts (l.drop i) q).1, ((i + (acts (l.drop i) q).2 : Nat) : Int))
theorem actsOut_step {l : List Action} {i : Nat} {q : Plan} (h : i < l.length) : actsOut l i q = if (act q l[i]).2 = true then actsOut l (i + 1) (act q l[i]).1 else .ret (q, (i : Int)) := by
  unfold actsOut
  rw [← List.getElem_cons_drop h]
  have e : acts (l[i] :: l.drop (i + 1)) q = if (act q l[i]).2 = true then ((acts (l.drop (i + 1)) (act q l[i]).1).1, (acts (l.drop (i + 1)) (act q l[i]).1).2 + 1) else (q, 0) := rfl
  rw [e]
  cases (act q l[i]).2
  · simp only [Bool.false_eq_true, if_false]
    rw [if_neg (by omega)]
    rfl
  · simp only [if_true]
    by_cases h1 : (acts (l.drop (i + 1)) (act q l[i]).1).2 = l.length - (i + 1)
    · rw [if_pos h1, if_pos (by omega)]
    · rw [if_neg h1, if_neg (by omega)]
      congr 3
      omega
theorem l20All_loop {fu : Nat} (hfu : 2097153 ≤ fu) (l : List Action) (hA : ActsB l) : ∀ (fk i : Nat) (q : Plan), planOk q = true → PlanB q → i ≤ l.length → l.length - i < fk → spec_l20All_L1 fu l fk i q.Network.Nodes q.Network.Fibers q.Lights = some (actsOut l i q) := by
  have hl := hA.1
  intro fk
  induction fk with
  | zero => intro i _ _ _ _ h; omega
  | succ fk ih =>
    intro i q hp hB hi hk
    rw [spec_l20All_L1]
    by_cases h : i < l.length
    · have h' : (i : Int) < (l.length : Int) := by omega
      have ha := hA.2 _ (List.getElem_mem h)
      have hap : spec_l20Apply fu ({ Network := ({ Nodes := q.Network.Nodes, Fibers := q.Network.Fibers } : Network), Lights := q.Lights } : Plan) l[i] = some (act q l[i]) := l20Apply_eq hfu q l[i] hB hp ha
      rw [actsOut_step h]
      simp only [h', decide_true, if_true, idx_in h, Option.bind_some, hap]
      cases hc : (act q l[i]).2
      · rfl
      · simp only [Bool.not_true, Bool.false_eq_true, if_false, if_true]
        rw [w64_inc h (by omega)]
        exact ih (i + 1) (act q l[i]).1 (act_ok hp hc) (act_B hB hp ha hc) h (by omega)
    · obtain rfl : i = l.length := by omega
      rw [if_neg (by simp)]
      unfold actsOut
      rw [List.drop_length]
      simp [acts]
theorem applied_loop {fu : Nat} (hfu : 2097153 ≤ fu) (l : List Action) (hA : ActsB l) : ∀ (fk i : Nat) (q : Plan), planOk q = true → PlanB q → i ≤ l.length → l.length - i < fk → impl_applied_L1 fu l fk i q.Network.Nodes q.Network.Fibers q.Lights = some (actsOut l i q) := by
  have hl := hA.1
  intro fk
  induction fk with
  | zero => intro i _ _ _ _ h; omega
  | succ fk ih =>
    intro i q hp hB hi hk
    rw [impl_applied_L1]
    by_cases h : i < l.length
    · have h' : (i : Int) < (l.length : Int) := by omega
      have ha := hA.2 _ (List.getElem_mem h)
      have hap : impl_ApplyAction fu ({ Network := ({ Nodes := q.Network.Nodes, Fibers := q.Network.Fibers } : Network), Lights := q.Lights } : Plan) l[i] = some (act q l[i]) := by
        have := apply_eq hfu q l[i] hB ha
        rwa [hp] at this
      rw [actsOut_step h]
      simp only [h', decide_true, if_true, idx_in h, Option.bind_some, hap]
      cases hc : (act q l[i]).2
      · rfl
      · simp only [Bool.not_true, Bool.false_eq_true, if_false, if_true]
        rw [w64_inc h (by omega)]
        exact ih (i + 1) (act q l[i]).1 (act_ok hp hc) (act_B hB hp ha hc) h (by omega)
    · obtain rfl : i = l.length := by omega
      rw [if_neg (by simp)]
      unfold actsOut
      rw [List.drop_length]
      simp [acts]
theorem actsOut_on {l : List Action} {p : Plan} : (actsOut l 0 p).on some (fun z => some (({ Network := ({ Nodes := z.2.1, Fibers := z.2.2.1 } : Network), Lights := z.2.2.2 } : Plan), (l.length : Int))) = some ((acts l p).1, ((acts l p).2 : Int)) := by
  unfold actsOut
  rw [List.drop_zero, Nat.sub_zero]
  split
  · rename_i h; rw [h]; rfl
  · rw [Nat.zero_add]; rfl
theorem l20All_eq {fu : Nat} (hfu : 2097153 ≤ fu) (p : Plan) (l : List Action) (hA : ActsB l) (hp : planOk p = true) (hB : PlanB p) : spec_l20All fu p l = some ((acts l p).1, ((acts l p).2 : Int)) := by
  have hl := hA.1
  unfold spec_l20All
  have := l20All_loop hfu l hA fu 0 p hp hB (by omega) (by omega)
  rw [show ((0 : Nat) : Int) = 0 from rfl] at this
  rw [l9Own_eq hfu p hB, Option.bind_some, this, Option.bind_some, actsOut_on]
theorem applied_eq {fu : Nat} (hfu : 2097153 ≤ fu) (p : Plan) (l : List Action) (hA : ActsB l) (hp : planOk p = true) (hB : PlanB p) : impl_applied fu p l = some ((acts l p).1, ((acts l p).2 : Int)) := by
  have hl := hA.1
  unfold impl_applied
  have := applied_loop hfu l hA fu 0 p hp hB (by omega) (by omega)
  rw [show ((0 : Nat) : Int) = 0 from rfl] at this
  rw [copyPlan_eq hfu p hB, Option.bind_some, this, Option.bind_some, actsOut_on]
end AT

