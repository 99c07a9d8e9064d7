/- SafeOrder: the program's and the reference's are one. -/
import Derived.Test.YtlemonjnolciiaaGreatQSfE
import Derived.Test.YtlemonjnolciiaaGreatH
set_option linter.unusedSimpArgs false
set_option linter.unusedVariables false
namespace AT
theorem mM {fu : Nat} (hfu : 2097153 ≤ fu) (x0 x1 : Nd) (hp : yS x0) (hq : yS x1) : ∃ L ok, xI fu x0 x1 = some (L, ok) ∧ vC fu x0 x1 = some (L, ok) ∧ (ok = true → vb x0 = true ∧ vb x1 = true ∧ ep x0.Nk x1.Nk = true ∧ L = dif x0 x1 ∧ L.length ≤ 8 ∧ jN L) := by
  unfold xI vC
  rw [zZ hfu x0 hp, bA hfu x0 hp, zZ hfu x1 hq, bA hfu x1 hq, gB hfu x0 x1 hp.1, fp hfu _ _ hp.1]
  simp only [Option.bind_some]
  cases h0 : vb x0
  · exact ⟨_, _, rfl, rfl, fun h => by cases h⟩
  cases h1 : vb x1
  · exact ⟨_, _, rfl, rfl, fun h => by cases h⟩
  cases h2 : ep x0.Nk x1.Nk
  · exact ⟨_, _, rfl, rfl, fun h => by cases h⟩
  have s0 := (l7 h0).short
  have s1 := (l7 h1).short
  simp only [Bool.not_true, Bool.false_eq_true, if_false, Option.bind_some, jv hfu x0 x1 hp hq s0 s1]
  have g1 := d6 x0.Nv (fun x => !has_ x1 x.Id) (fun x => (⟨2, x⟩ : Nh)) (uU fu x0 x1) hp.2.1
    (fun fk i o h ho => by
      have h' : (i : Int) < (x0.Nv.length : Int) := by omega
      obtain ⟨y, -, y2, y3, -⟩ := d5 hfu x1 x0.Nv[i].Id hq.2.1
      have ha : app o [(⟨2, x0.Nv[i]⟩ : Nh)] = some (o ++ [(⟨2, x0.Nv[i]⟩ : Nh)]) := zx (by rw [List.length_singleton]; omega)
      rw [uU]
      simp only [h', decide_true, if_true, vG h, Option.bind_some, y2, y3, ha])
    (fun fk o => by rw [uU, if_neg (by simp)]) fu 0 [] (by omega) (by omega) (by simp; omega)
  rw [show ((0 : Nat) : Int) = 0 from rfl, List.nil_append, List.drop_zero] at g1
  obtain ⟨z, g2⟩ := ni hfu x0 x1 hp hq s1 fu 0 [] [] (by omega) (by omega) (by simp) (by simp)
  rw [show ((0 : Nat) : Int) = 0 from rfl, List.nil_append, List.nil_append, List.drop_zero] at g2
  have lr : (remL x0 x1).length ≤ 12 := by unfold remL; rw [List.length_map]; exact Nat.le_trans (List.length_filter_le _ _) s0
  have lm : (movL x0 x1 x1.Nv).length ≤ 12 := by unfold movL; rw [List.length_map]; exact Nat.le_trans (List.length_filter_le _ _) s1
  have la : (addL x0 x1 x1.Nv).length ≤ 12 := by unfold addL; rw [List.length_map]; exact Nat.le_trans (List.length_filter_le _ _) s1
  have g3 : uF fu [(x0.Nv.filter fun x => !has_ x1 x.Id).map (fun x => (⟨2, x⟩ : Nh)), movL x0 x1 x1.Nv, addL x0 x1 x1.Nv] = some (remL x0 x1 ++ (movL x0 x1 x1.Nv ++ addL x0 x1 x1.Nv)) := by
    rw [mQ hfu _ (by simp) (fun x hx => by
      simp only [List.mem_cons, List.not_mem_nil, or_false] at hx
      rcases hx with rfl | rfl | rfl
      · have : ((x0.Nv.filter fun x => !has_ x1 x.Id).map (fun x => (⟨2, x⟩ : Nh))).length ≤ 12 := lr
        omega
      · omega
      · omega)]
    simp [remL]
  have hlen : (remL x0 x1 ++ (movL x0 x1 x1.Nv ++ addL x0 x1 x1.Nv)).length ≤ 36 := by rw [List.length_append, List.length_append]; omega
  have hA : jN (remL x0 x1 ++ (movL x0 x1 x1.Nv ++ addL x0 x1 x1.Nv)) := ⟨by omega, fun a ha => by
    rcases kj ha with h | h
    · exact hp.2.2 _ h
    · exact hq.2.2 _ h⟩
  rw [g1]
  simp only [Option.bind_some, g2, g3, gE hfu _ hA]
  by_cases h8 : ((remL x0 x1 ++ (movL x0 x1 x1.Nv ++ addL x0 x1 x1.Nv)).length : Int) > 8
  · simp only [h8, decide_true, if_true]
    exact ⟨_, _, rfl, rfl, fun h => by cases h⟩
  · simp only [h8, decide_false, Bool.false_eq_true, if_false]
    exact ⟨_, _, rfl, rfl, fun _ => ⟨trivial, trivial, trivial, rfl, by omega, hA⟩⟩
theorem kF {fu : Nat} (L : List Nh) (hL : L.length ≤ 8) (is : List Nat) (his : is.length ≤ 8) (hm : ∀ i ∈ is, i < L.length) (b : Bool) (y2 : List Int × Bool × List Bool) (h2 : y2.1 = ordI is) : ∀ (fk i : Nat) (o : List Nh), i ≤ is.length → is.length - i < fk → o.length ≤ i →
    ∃ z, vN fu (L, b) y2 fk o (i : Int) = some (o ++ pick L (is.drop i), z) := by
  intro fk
  induction fk with
  | zero => intro i o _ h; omega
  | succ fk ih =>
    intro i o hi hk ho
    rw [vN, h2, cV]
    by_cases h : i < is.length
    · have hmi : is[i] < L.length := hm _ (List.getElem_mem h)
      have hx : idx (ordI is) (i : Int) = some ((is[i] : Nat) : Int) := by
        rw [vG (show i < (ordI is).length by rw [cV]; exact h)]
        simp [ordI]
      have hn9 : (is.length : Int) ≤ 9223372036854775807 := by omega
      rw [if_pos (by simpa using h), hx, Option.bind_some, vV a0 hmi, Option.bind_some, zx (by rw [List.length_singleton]; omega), Option.bind_some, xa h hn9]
      obtain ⟨z, hz⟩ := ih (i + 1) (o ++ [gd L is[i] a0]) h (by omega) (by simp; omega)
      refine ⟨z, ?_⟩
      rw [hz, ← List.getElem_cons_drop h]
      simp only [pick, List.map_cons, List.append_assoc, List.singleton_append]
    · obtain rfl : i = is.length := by omega
      rw [if_neg (by simp), List.drop_length]
      exact ⟨_, by rw [show pick L [] = [] from rfl, List.append_nil]⟩
theorem ns {n : Nat} (hn : n ≤ 8) : SfS n [] 0 ∧ jm n [] (List.replicate (2 ^ n) false) := by
  have h := fI hn
  refine ⟨⟨by omega, .nil, fun i => by simp⟩, ⟨List.length_replicate, fun v hv => ?_⟩⟩
  rw [gd, List.getElem?_replicate, if_pos hv]
  rfl
theorem cG {fu : Nat} (hfu4 : 2097200 ≤ fu) {x0 x1 : Nd} (_ : el x0) (_ : el x1) (b0 : gU x0) (b1 : gU x1) : ∃ w, yV fu x0 x1 = some w ∧ yw fu x0 x1 = some w ∧ cP w.1 := by
  have hfu : 2097153 ≤ fu := by omega
  have hp : yS x0 := ⟨⟨b0.1.1, b0.1.2.1⟩, b0.2.1, fun x hx => (b0.2.2 x hx).1.1⟩
  have hq : yS x1 := ⟨⟨b1.1.1, b1.1.2.1⟩, b1.2.1, fun x hx => (b1.2.2 x hx).1.1⟩
  have nil : cP [] := by simp [cP]
  obtain ⟨L, ok, g2, g3, g4⟩ := mM hfu x0 x1 hp hq
  unfold yw yV
  rw [g2, g3]
  simp only [Option.bind_some]
  cases ok
  · exact ⟨_, rfl, rfl, nil⟩
  · obtain ⟨hpo, hqo, hns, hLd, h8, hA⟩ := g4 rfl
    have hpow := fI h8
    obtain ⟨hS, hR⟩ := ns h8
    have h9 : 9 ^ L.length ≤ 9 ^ 8 := Nat.pow_le_pow_right (by omega) h8
    obtain ⟨is, ok, dead', failed', r1, r2, -, -, hg⟩ := po hA h8 (B := 9 ^ 8) (by decide) L.length fu x0 [] 0 [] (List.replicate (2 ^ L.length) false) (by omega) hpo hp hS (by simp) hR (by simpa using h9)
    have hw : w64 (((2 ^ L.length : Nat) : Int) - 1) = ((2 ^ L.length - 1 - 0 : Nat) : Int) := by
      rw [vu (by omega) (by omega)]; omega
    have hmk : mk (false : Bool) ((2 ^ L.length : Nat) : Int) = some (List.replicate (2 ^ L.length) false) := by
      unfold mk
      rw [if_pos ⟨by omega, by omega⟩, Int.toNat_natCast]
    have hwu := wuS (n := L.length) (by omega)
    have r2' : uE fu ({ list := L, failed := List.replicate (2 ^ L.length) false } : Ph) x0 ([] : List Int) 0 = _ := r2
    simp only [Bool.not_true, Bool.false_eq_true, if_false, hwu, iF h8, Option.bind_some, hw, hmk, r1, r2']
    clear hw hwu
    cases ok
    · exact ⟨_, rfl, rfl, nil⟩
    · have hG := hg rfl
      have hm : ∀ i ∈ is, i < L.length := fun i hi => (hG.mem i).1 (by simpa using hi)
      have hlen : is.length ≤ 8 := by
        subst hLd
        have := pW hpo hqo hp hA hG
        omega
      obtain ⟨z, hz⟩ := kF (fu := fu) L h8 is hlen hm true (ordI ([] ++ is), true, failed') rfl fu 0 [] (by omega) (by omega) (by simp)
      rw [show ((0 : Nat) : Int) = 0 from rfl] at hz
      simp only [if_true, Bool.not_true, Bool.false_eq_true, if_false, hz, Option.bind_some]
      refine ⟨_, rfl, rfl, ?_, fun a ha => ?_⟩
      · show ([] ++ pick L is).length ≤ 2097152
        rw [List.nil_append, ig]; omega
      · have ha' : a ∈ pick L is := by simpa using ha
        obtain ⟨i, hi, rfl⟩ := List.mem_map.1 ha'
        have hmem := bB (l := L) a0 (hm i hi)
        subst hLd
        rcases kj hmem with h | h
        · exact b0.2.2 _ h
        · exact b1.2.2 _ h
end AT
