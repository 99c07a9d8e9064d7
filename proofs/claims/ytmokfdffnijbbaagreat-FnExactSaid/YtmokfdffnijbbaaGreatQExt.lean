/- Networks, plainly: names, fibers, validity. -/
import Derived.Test.YtmokfdffnijbbaaGreatP1
import Derived.Test.YtmokfdffnijbbaaGreatAtL
set_option linter.unusedSimpArgs false
set_option linter.unusedVariables false
namespace AT
def chr (s : ByteArray) (i : Nat) : Int := ((s[i]?).map fun b => (b.toNat : Int)).getD 0
theorem sidx_chr {s : ByteArray} {i : Nat} (h : i < s.size) : sidx s (i : Int) = some ⟨chr s i⟩ := by
  have e : s[i]? = some (s[i]'h) := by simp [h]
  unfold sidx chr
  rw [if_pos (by omega), Int.toNat_natCast, e]
  rfl
def isLet (c : Int) : Bool := decide (97 ≤ c) && decide (c ≤ 122)
def isDig (c : Int) : Bool := decide (48 ≤ c) && decide (c ≤ 57)
def sgnBad (s : ByteArray) (i : Nat) : Bool := !(isLet (chr s i) || isDig (chr s i))
def chrBad (s : ByteArray) (i : Nat) : Bool := !isLet (chr s i) && (!isDig (chr s i) || i == 0)
def nameOk (s : ByteArray) : Bool := !((List.range s.size).any (chrBad s)) && (decide (1 ≤ s.size) && decide (s.size ≤ 8))
theorem isName_eq {fu : Nat} (s : ByteArray) (h : s.size < fu) (hn : s.size ≤ 2097152) : impl_isName fu s = some (nameOk s) := by
  unfold impl_isName
  rw [scan_all (l := List.range s.size) (G := impl_isName_L1 fu s) (chrBad s) (fun i => false) (by simp; omega)
    (fun fk i hi => by
      have hi' : i < s.size := by simpa using hi
      rw [impl_isName_L1, if_pos (by simpa using hi'), sidx_chr hi', List.getElem_range]
      simp only [Option.bind_some, chrBad, isLet, isDig, ge_iff_le]
      have e0 : ((i : Int) == 0) = (i == 0) := by rw [Bool.eq_iff_iff]; simp only [beq_iff_eq]; omega
      rw [e0]
      obtain ⟨b, hb⟩ : ∃ b, b = (i == 0) := ⟨_, rfl⟩
      simp only [← hb]
      by_cases h1 : 97 ≤ chr s i <;> by_cases h2 : 48 ≤ chr s i <;> by_cases h3 : chr s i ≤ 122 <;> by_cases h4 : chr s i ≤ 57 <;> cases b <;> simp [h1, h2, h3, h4])
    (fun fk => by rw [List.length_range, impl_isName_L1, if_neg (by simp)]) fu (by simpa using h)]
  unfold nameOk
  have e1 : decide (1 ≤ (s.size : Int)) = decide (1 ≤ s.size) := by simp only [decide_eq_decide]; omega
  have e2 : decide ((s.size : Int) ≤ 8) = decide (s.size ≤ 8) := by simp only [decide_eq_decide]; omega
  cases (List.range s.size).any (chrBad s) <;> simp [Out.on, e1, e2]
theorem l2Sign_eq (fu : Nat) (b : By) : spec_l2Sign fu b = some (isLet b.n || isDig b.n) := by
  unfold spec_l2Sign isLet isDig
  simp only [ge_iff_le]
  by_cases h1 : 97 ≤ b.n <;> by_cases h2 : 48 ≤ b.n <;> by_cases h3 : b.n ≤ 122 <;> by_cases h4 : b.n ≤ 57 <;> simp [h1, h2, h3, h4]
theorem l2Name_eq {fu : Nat} (s : ByteArray) (h : s.size < fu) (hn : s.size ≤ 2097152) : spec_l2Name fu s = some (nameOk s) := by
  unfold spec_l2Name
  have e1 : decide (1 ≤ (s.size : Int)) = decide (1 ≤ s.size) := by simp only [decide_eq_decide]; omega
  have e2 : decide ((s.size : Int) ≤ 8) = decide (s.size ≤ 8) := by simp only [decide_eq_decide]; omega
  simp only [l1In_eq, Option.bind_some, e1, e2]
  unfold nameOk
  by_cases hb : (decide (1 ≤ s.size) && decide (s.size ≤ 8)) = true
  · rw [hb]
    simp only [Bool.and_eq_true, decide_eq_true_eq] at hb
    have h0 : 0 < s.size := by omega
    have hs := sidx_chr h0
    simp only [Int.ofNat_zero, Int.natCast_zero] at hs
    simp only [Bool.not_true, Bool.false_eq_true, if_false, hs, Option.bind_some, Bool.and_true]
    have hl : spec_l2Name_L1 fu s fu 0 = some (if (List.range s.size).any (sgnBad s) then .ret false else .next ((List.range s.size).length : Int)) :=
      scan_all (l := List.range s.size) (G := spec_l2Name_L1 fu s) (sgnBad s) (fun i => false) (by simp; omega)
        (fun fk i hi => by
          have hi' : i < s.size := by simpa using hi
          rw [spec_l2Name_L1, if_pos (by simpa using hi'), sidx_chr hi', List.getElem_range]
          simp only [Option.bind_some, l2Sign_eq, sgnBad]
          rfl)
        (fun fk => by rw [List.length_range, spec_l2Name_L1, if_neg (by simp)]) fu (by simpa using h)
    rw [hl]
    have ha : (List.range s.size).any (chrBad s) = (!isLet (chr s 0) || (List.range s.size).any (sgnBad s)) := by
      rw [Bool.eq_iff_iff]
      simp only [List.any_eq_true, List.mem_range, Bool.or_eq_true, chrBad, sgnBad, Bool.and_eq_true, Bool.not_eq_true', beq_iff_eq, Bool.or_eq_false_iff]
      constructor
      · rintro ⟨i, hi, h1, h2⟩
        rcases h2 with h2 | h2
        · exact .inr ⟨i, hi, h1, h2⟩
        · subst h2; exact .inl h1
      · rintro (h1 | ⟨i, hi, h1, h2⟩)
        · exact ⟨0, h0, h1, .inr rfl⟩
        · exact ⟨i, hi, h1, .inl h2⟩
    rw [ha]
    unfold isLet
    have e3 : decide (chr s 0 < 97) = !decide (97 ≤ chr s 0) := by rw [← decide_not]; simp only [decide_eq_decide]; omega
    have e4 : decide (chr s 0 > 122) = !decide (chr s 0 ≤ 122) := by rw [← decide_not]; simp only [decide_eq_decide]; omega
    simp only [e3, e4]
    cases decide (97 ≤ chr s 0) <;> cases decide (chr s 0 ≤ 122) <;> cases (List.range s.size).any (sgnBad s) <;> rfl
  · rw [Bool.not_eq_true] at hb
    rw [hb]
    simp
def nm0 : ByteArray := ByteArray.empty
def seen (l : List ByteArray) (i : Nat) : Bool := (l.take i).any fun x => (gd l i nm0).toList == x.toList
theorem beq_symm' {α : Type} [BEq α] [LawfulBEq α] (a b : α) : (a == b) = (b == a) := by
  rw [Bool.eq_iff_iff]; simp only [beq_iff_eq]; exact eq_comm
theorem indexS_eq {fu : Nat} (l : List ByteArray) (v : ByteArray) (h : l.length < fu) (hn : l.length ≤ 2097152) : slices_Index_string_string fu l v = some (if l.any (fun x => v.toList == x.toList) then ((l.findIdx fun x => v.toList == x.toList : Nat) : Int) else -1) := by
  unfold slices_Index_string_string
  rw [scan_all (l := l) (G := slices_Index_string_string_L1 fu l v) (fun x => v.toList == x.toList) (fun i => (i : Int)) (by omega)
    (fun fk i hi => by rw [slices_Index_string_string_L1, if_pos (by simpa using hi), idx_in hi]; rfl)
    (fun fk => by rw [slices_Index_string_string_L1, if_neg (by simp)]) fu h]
  cases l.any (fun x => v.toList == x.toList) <;> rfl
theorem containsS_eq {fu : Nat} (l : List ByteArray) (v : ByteArray) (h : l.length < fu) (hn : l.length ≤ 2097152) : slices_Contains_string_string fu l v = some (l.any fun x => v.toList == x.toList) := by
  unfold slices_Contains_string_string
  rw [indexS_eq l v h hn]
  cases l.any (fun x => v.toList == x.toList)
  · rfl
  · simp
theorem l2Find_eq {fu : Nat} (l : List ByteArray) (v : ByteArray) (h : l.length < fu) (hn : l.length ≤ 2097152) : spec_l2Find fu l v = some (if l.any (fun x => x.toList == v.toList) then ((l.findIdx fun x => x.toList == v.toList : Nat) : Int) else -1) := by
  unfold spec_l2Find
  rw [scan_all (l := l) (G := spec_l2Find_L1 fu l v) (fun x => x.toList == v.toList) (fun i => (i : Int)) (by omega)
    (fun fk i hi => by rw [spec_l2Find_L1, if_pos (by simpa using hi), idx_in hi]; rfl)
    (fun fk => by rw [spec_l2Find_L1, if_neg (by simp)]) fu h]
  cases l.any (fun x => x.toList == v.toList) <;> rfl
theorem sub_take {α : Type} {l : List α} {i : Nat} (h : i ≤ l.length) : sub l 0 (i : Int) = some (l.take i) := by
  unfold sub
  rw [if_pos (by omega)]
  simp
theorem findIdx_self {α : Type} {l : List α} {p : α → Bool} {i : Nat} (h : i < l.length) (hp : p l[i] = true) : (l.findIdx p = i) ↔ (l.take i).any p = false := by
  rw [List.findIdx_eq h]
  constructor
  · rintro ⟨-, h2⟩
    rw [Bool.eq_false_iff]
    intro h3
    obtain ⟨x, hx, hpx⟩ := List.any_eq_true.1 h3
    obtain ⟨j, hj, rfl⟩ := List.mem_iff_getElem.1 hx
    simp only [List.length_take] at hj
    rw [List.getElem_take] at hpx
    have := h2 j (by omega)
    rw [hpx] at this
    cases this
  · intro h3
    refine ⟨hp, fun j hj => ?_⟩
    rw [Bool.eq_false_iff]
    intro h4
    rw [Bool.eq_false_iff] at h3
    refine h3 (List.any_eq_true.2 ⟨l[j], ?_, h4⟩)
    refine List.mem_iff_getElem.2 ⟨j, by simp; omega, by rw [List.getElem_take]⟩
def nodeBad (l : List ByteArray) (i : Nat) : Bool := !nameOk (gd l i nm0) || seen l i
def f0 : Fiber := ⟨0, 0, 0, 0⟩
def fibOk (m : Nat) (f : Fiber) : Bool := decide (0 ≤ f.A) && (decide (f.A < f.B) && (decide (f.B < (m : Int)) && ((decide (1 ≤ f.Length) && decide (f.Length ≤ 5000)) && (decide (0 ≤ f.Risk) && decide (f.Risk ≤ 9)))))
def fGt (f g : Fiber) : Bool := decide (g.A < f.A) || (f.A == g.A && (decide (g.B < f.B) || (f.B == g.B && (decide (g.Length < f.Length) || (f.Length == g.Length && decide (g.Risk < f.Risk))))))
def cmpI (x y : Int) : Int := if x < y then -1 else if x > y then 1 else 0
theorem compare_eq (fu : Nat) (x y : Int) : cmp_Compare_int fu x y = some (cmpI x y) := by
  unfold cmp_Compare_int cmp_isNaN_int cmpI
  have e : ∀ z : Int, (z != z) = false := fun z => by simp
  simp only [e, Option.bind_some, Bool.false_eq_true, if_false, decide_eq_true_eq]
  by_cases h : x < y
  · rw [if_pos h, if_pos h]
  · rw [if_neg h, if_neg h]
    split <;> rfl
theorem cmpI_pos (x y : Int) : 0 < cmpI x y ↔ y < x := by unfold cmpI; split <;> (try split) <;> omega
theorem cmpI_zero (x y : Int) : cmpI x y = 0 ↔ x = y := by unfold cmpI; split <;> (try split) <;> omega
def or4 (a b c d : Int) : Int := if a ≠ 0 then a else if b ≠ 0 then b else if c ≠ 0 then c else if d ≠ 0 then d else 0
theorem or_eq {fu : Nat} (a b c d : Int) (h : 4 < fu) : cmp_Or_int fu [a, b, c, d] = some (or4 a b c d) := by
  unfold cmp_Or_int
  rw [scan_all (l := [a, b, c, d]) (G := cmp_Or_int_L1 fu [a, b, c, d]) (fun e => e != 0) (fun i => gd [a, b, c, d] i 0) (by simp)
    (fun fk i hi => by rw [cmp_Or_int_L1, if_pos (by rw [decide_eq_true_eq]; omega), idx_in hi, gd_in 0 hi]; rfl)
    (fun fk => by rw [cmp_Or_int_L1, if_neg (by simp)]) fu (by simpa using h)]
  unfold or4
  have e : ∀ z : Int, (z != 0) = !decide (z = 0) := fun z => by by_cases h : z = 0 <;> simp [h]
  simp only [e]
  by_cases ha : a = 0 <;> by_cases hb : b = 0 <;> by_cases hc : c = 0 <;> by_cases hd : d = 0 <;> simp [ha, hb, hc, hd, List.findIdx_cons, gd, Out.on]
theorem compareFibers_eq {fu : Nat} (f g : Fiber) (h : 4 < fu) : ∃ r, impl_compareFibers fu f g = some r ∧ decide (r > 0) = fGt f g := by
  unfold impl_compareFibers
  simp only [compare_eq, Option.bind_some, or_eq _ _ _ _ h]
  refine ⟨_, rfl, ?_⟩
  rw [Bool.eq_iff_iff]
  simp only [fGt, decide_eq_true_eq, Bool.or_eq_true, Bool.and_eq_true, beq_iff_eq, or4]
  have a1 := cmpI_pos f.A g.A
  have a2 := cmpI_zero f.A g.A
  have b1 := cmpI_pos f.B g.B
  have b2 := cmpI_zero f.B g.B
  have c1 := cmpI_pos f.Length g.Length
  have c2 := cmpI_zero f.Length g.Length
  have d1 := cmpI_pos f.Risk g.Risk
  have d2 := cmpI_zero f.Risk g.Risk
  generalize cmpI f.A g.A = a at *
  generalize cmpI f.B g.B = b at *
  generalize cmpI f.Length g.Length = c at *
  generalize cmpI f.Risk g.Risk = d at *
  split <;> (try split) <;> (try split) <;> (try split) <;> constructor <;> intro h <;> simp only [decide_eq_true_eq] at * <;> omega
def bef (f g : Fiber) : Int := if f.A ≠ g.A then w64 (f.A - g.A) else if f.B ≠ g.B then w64 (f.B - g.B) else if f.Length ≠ g.Length then w64 (f.Length - g.Length) else w64 (f.Risk - g.Risk)
theorem l2Before_eq (fu : Nat) (f g : Fiber) : spec_l2Before fu f g = some (bef f g) := by
  unfold spec_l2Before bef
  by_cases h1 : f.A = g.A
  · by_cases h2 : f.B = g.B
    · by_cases h3 : f.Length = g.Length <;> simp [h1, h2, h3]
    · simp [h1, h2]
  · simp [h1]
theorem bef_gt {m : Nat} {f g : Fiber} (hm : m ≤ 8) (hf : fibOk m f = true) (hg : fibOk m g = true) : decide (bef f g > 0) = fGt f g := by
  simp only [fibOk, Bool.and_eq_true, decide_eq_true_eq] at hf hg
  rw [Bool.eq_iff_iff]
  simp only [fGt, decide_eq_true_eq, Bool.or_eq_true, Bool.and_eq_true, beq_iff_eq]
  unfold bef
  have e1 : w64 (f.A - g.A) = f.A - g.A := w64_in (by omega) (by omega)
  have e2 : w64 (f.B - g.B) = f.B - g.B := w64_in (by omega) (by omega)
  have e3 : w64 (f.Length - g.Length) = f.Length - g.Length := w64_in (by omega) (by omega)
  have e4 : w64 (f.Risk - g.Risk) = f.Risk - g.Risk := w64_in (by omega) (by omega)
  rw [e1, e2, e3, e4]
  clear e1 e2 e3 e4
  split
  · omega
  · split
    · omega
    · split <;> omega
theorem l2Fiber_eq {fu m : Nat} (f : Fiber) (hm : m ≤ 8) : spec_l2Fiber fu f (m : Int) = some (fibOk m f) := by
  unfold spec_l2Fiber
  simp only [l1In_eq, Option.bind_some]
  have e0 : w64 ((m : Int) - 1) = (m : Int) - 1 := w64_in (by omega) (by omega)
  rw [e0]
  unfold fibOk
  by_cases h1 : 0 ≤ f.A
  · by_cases h2 : f.A ≤ (m : Int) - 1
    · have e1 : w64 (f.A + 1) = f.A + 1 := w64_in (by omega) (by omega)
      rw [e1]
      have e2 : decide (f.A + 1 ≤ f.B) = decide (f.A < f.B) := by simp only [decide_eq_decide]; omega
      have e3 : decide (f.B ≤ (m : Int) - 1) = decide (f.B < (m : Int)) := by simp only [decide_eq_decide]; omega
      rw [e2, e3]
      simp only [h1, h2, decide_true, Bool.and_true, if_true, Bool.true_and]
      cases decide (f.A < f.B) <;> cases decide (f.B < (m : Int)) <;> cases decide (1 ≤ f.Length) <;> cases decide (f.Length ≤ 5000) <;> cases decide (0 ≤ f.Risk) <;> cases decide (f.Risk ≤ 9) <;> rfl
    · have : (decide (f.A < f.B) && decide (f.B < (m : Int))) = false := by
        rw [Bool.eq_false_iff]; simp only [ne_eq, Bool.and_eq_true, decide_eq_true_eq]; omega
      rw [← Bool.and_assoc (decide (f.A < f.B)), this]
      simp [h1, h2]
  · simp [h1]
def fibBad (m : Nat) (l : List Fiber) (i : Nat) : Bool := !fibOk m (gd l i f0) || (decide (0 < i) && fGt (gd l (i - 1) f0) (gd l i f0))
def fibBadS (m : Nat) (l : List Fiber) (i : Nat) : Bool := !fibOk m (gd l i f0) || (decide (0 < i) && decide (bef (gd l (i - 1) f0) (gd l i f0) > 0))
theorem fibBad_eq {m : Nat} (l : List Fiber) (hm : m ≤ 8) : (List.range l.length).any (fibBadS m l) = (List.range l.length).any (fibBad m l) := by
  by_cases hv : ∃ i, i < l.length ∧ fibOk m (gd l i f0) = false
  · obtain ⟨i, hi, hb⟩ := hv
    have h1 : (List.range l.length).any (fibBadS m l) = true := List.any_eq_true.2 ⟨i, List.mem_range.2 hi, by simp [fibBadS, hb]⟩
    have h2 : (List.range l.length).any (fibBad m l) = true := List.any_eq_true.2 ⟨i, List.mem_range.2 hi, by simp [fibBad, hb]⟩
    rw [h1, h2]
  · have hv' : ∀ i, i < l.length → fibOk m (gd l i f0) = true := fun i hi => by
      cases h : fibOk m (gd l i f0)
      · exact absurd ⟨i, hi, h⟩ hv
      · rfl
    refine any_same fun i hi => ?_
    have hi' := List.mem_range.1 hi
    unfold fibBadS fibBad
    by_cases h0 : 0 < i
    · rw [bef_gt hm (hv' (i - 1) (by omega)) (hv' i hi')]
    · simp [h0]
def netOk (n : Network) : Bool := (decide (2 ≤ n.Nodes.length) && decide (n.Nodes.length ≤ 8)) && (decide (n.Fibers.length ≤ 14) && (!((List.range n.Nodes.length).any (nodeBad n.Nodes)) && !((List.range n.Fibers.length).any (fibBad n.Nodes.length n.Fibers))))
def NetB (n : Network) : Prop := (n.Nodes.length ≤ 2097152 ∧ ∀ e ∈ n.Nodes, e.size ≤ 2097152) ∧ n.Fibers.length ≤ 2097152
theorem gd_mem {α : Type} {l : List α} {i : Nat} (d : α) (h : i < l.length) : gd l i d ∈ l := by rw [gd_in d h]; exact List.getElem_mem _
theorem implNet_eq {fu : Nat} (hfu : 2097153 ≤ fu) (n : Network) (hB : NetB n) : impl_IsValidNetwork fu n = some (netOk n) := by
  obtain ⟨⟨hl, hs⟩, hl2⟩ := hB
  unfold impl_IsValidNetwork
  rw [scan_all (l := List.range n.Nodes.length) (G := impl_IsValidNetwork_L1 fu n) (nodeBad n.Nodes) (fun i => false) (by simp; omega)
    (fun fk i hi => by
      have hi' : i < n.Nodes.length := by simpa using hi
      have hz := hs _ (gd_mem nm0 hi')
      rw [impl_IsValidNetwork_L1, if_pos (by simpa using hi'), idx_gd nm0 hi', List.getElem_range]
      simp only [Option.bind_some, isName_eq _ (show (gd n.Nodes i nm0).size < fu by omega) hz, nodeBad, seen]
      rcases Bool.eq_false_or_eq_true (nameOk (gd n.Nodes i nm0)) with h1 | h1
      · rw [sub_take (by omega)]
        simp only [h1, Bool.not_true, Bool.false_eq_true, if_false, Option.bind_some, containsS_eq _ _ (show (n.Nodes.take i).length < fu by simp; omega) (by simp; omega), Bool.false_or]
      · simp [h1])
    (fun fk => by rw [List.length_range, impl_IsValidNetwork_L1, if_neg (by simp)]) fu (by simp; omega)]
  rw [scan_all (l := List.range n.Fibers.length) (G := impl_IsValidNetwork_L2 fu n) (fibBad n.Nodes.length n.Fibers) (fun i => false) (by simp; omega)
    (fun fk i hi => by
      have hi' : i < n.Fibers.length := by simpa using hi
      rw [impl_IsValidNetwork_L2, if_pos (by simpa using hi'), idx_gd f0 hi', List.getElem_range]
      simp only [Option.bind_some, within_eq, fibBad, fibOk]
      obtain ⟨x, hx⟩ : ∃ x, x = gd n.Fibers i f0 := ⟨_, rfl⟩
      simp only [← hx]
      have a1 : decide (x.A < 0) = !decide (0 ≤ x.A) := by rw [← decide_not]; simp only [decide_eq_decide]; omega
      have a2 : decide (x.A ≥ x.B) = !decide (x.A < x.B) := by rw [← decide_not]; simp only [decide_eq_decide]; omega
      have a3 : decide (x.B ≥ (n.Nodes.length : Int)) = !decide (x.B < (n.Nodes.length : Int)) := by rw [← decide_not]; simp only [decide_eq_decide]; omega
      simp only [a1, a2, a3]
      by_cases b1 : (decide (0 ≤ x.A)) = false
      · simp [b1]
      rw [Bool.not_eq_false] at b1
      by_cases b2 : (decide (x.A < x.B)) = false
      · simp [b1, b2]
      rw [Bool.not_eq_false] at b2
      by_cases b3 : (decide (x.B < (n.Nodes.length : Int))) = false
      · simp [b1, b2, b3]
      rw [Bool.not_eq_false] at b3
      by_cases b4 : (decide (1 ≤ x.Length) && decide (x.Length ≤ 5000)) = false
      · simp only [b1, b2, b3, b4]; simp
      rw [Bool.not_eq_false] at b4
      by_cases b5 : (decide (0 ≤ x.Risk) && decide (x.Risk ≤ 9)) = false
      · simp only [b1, b2, b3, b4, b5]; simp
      rw [Bool.not_eq_false] at b5
      simp only [b1, b2, b3, b4, b5]
      by_cases h0 : 0 < i
      · rw [w64_dec h0 (by omega), idx_gd f0 (show i - 1 < n.Fibers.length by omega)]
        obtain ⟨r, h1, h2⟩ := compareFibers_eq (fu := fu) (gd n.Fibers (i - 1) f0) x (by omega)
        have h0' : ((i : Int) > 0) := by omega
        simp [h0, h1, h2, h0']
      · have h0' : ¬ ((i : Int) > 0) := by omega
        simp [h0, h0'])
    (fun fk => by rw [List.length_range, impl_IsValidNetwork_L2, if_neg (by simp)]) fu (by simp; omega)]
  unfold netOk
  have e1 : decide (2 ≤ (n.Nodes.length : Int)) = decide (2 ≤ n.Nodes.length) := by simp only [decide_eq_decide]; omega
  have e2 : decide ((n.Nodes.length : Int) ≤ 8) = decide (n.Nodes.length ≤ 8) := by simp only [decide_eq_decide]; omega
  have e3 : decide ((n.Fibers.length : Int) ≤ 14) = decide (n.Fibers.length ≤ 14) := by simp only [decide_eq_decide]; omega
  simp only [within_eq, e1, e2, e3]
  cases (List.range n.Nodes.length).any (nodeBad n.Nodes) <;> cases (List.range n.Fibers.length).any (fibBad n.Nodes.length n.Fibers) <;> cases decide (2 ≤ n.Nodes.length) <;> cases decide (n.Nodes.length ≤ 8) <;> cases decide (n.Fibers.length ≤ 14) <;> rfl
theorem specNet_eq {fu : Nat} (hfu : 2097153 ≤ fu) (n : Network) (hB : NetB n) : spec_l2Good fu n = some (netOk n) := by
  obtain ⟨⟨hl, hs⟩, hl2⟩ := hB
  unfold spec_l2Good netOk
  have e1 : decide (2 ≤ (n.Nodes.length : Int)) = decide (2 ≤ n.Nodes.length) := by simp only [decide_eq_decide]; omega
  have e2 : decide ((n.Nodes.length : Int) ≤ 8) = decide (n.Nodes.length ≤ 8) := by simp only [decide_eq_decide]; omega
  have e3 : decide ((n.Fibers.length : Int) > 14) = !decide (n.Fibers.length ≤ 14) := by rw [← decide_not]; simp only [decide_eq_decide]; omega
  simp only [l1In_eq, e1, e2, e3, Option.bind_some]
  cases hb : (decide (2 ≤ n.Nodes.length) && decide (n.Nodes.length ≤ 8))
  · rfl
  cases hc : decide (n.Fibers.length ≤ 14)
  · rfl
  simp only [Bool.and_eq_true, decide_eq_true_eq] at hb hc
  rw [scan_all (l := List.range n.Nodes.length) (G := spec_l2Good_L1 fu n) (nodeBad n.Nodes) (fun i => false) (by simp; omega)
    (fun fk i hi => by
      have hi' : i < n.Nodes.length := by simpa using hi
      have hz := hs _ (gd_mem nm0 hi')
      rw [spec_l2Good_L1, if_pos (by simpa using hi'), idx_gd nm0 hi', List.getElem_range]
      simp only [Option.bind_some, l2Name_eq _ (show (gd n.Nodes i nm0).size < fu by omega) hz, nodeBad, seen]
      by_cases h1 : (nameOk (gd n.Nodes i nm0)) = false
      · simp [h1]
      rw [Bool.not_eq_false] at h1
      · have hp : (fun x : ByteArray => x.toList == (gd n.Nodes i nm0).toList) n.Nodes[i] = true := by simp [gd_in nm0 hi']
        have ha : n.Nodes.any (fun x => x.toList == (gd n.Nodes i nm0).toList) = true := List.any_eq_true.2 ⟨_, List.getElem_mem hi', hp⟩
        have hfi := findIdx_self (p := fun x : ByteArray => x.toList == (gd n.Nodes i nm0).toList) hi' hp
        have hsy : (n.Nodes.take i).any (fun x => (gd n.Nodes i nm0).toList == x.toList) = (n.Nodes.take i).any (fun x => x.toList == (gd n.Nodes i nm0).toList) := any_same fun x _ => beq_symm' _ _
        simp only [h1, Bool.not_true, Bool.false_eq_true, if_false, Option.bind_some, l2Find_eq _ _ (show n.Nodes.length < fu by omega) hl, ha, if_true, Bool.false_or, hsy]
        have he : (((n.Nodes.findIdx fun x => x.toList == (gd n.Nodes i nm0).toList : Nat) : Int) != (i : Int)) = (n.Nodes.take i).any (fun x => x.toList == (gd n.Nodes i nm0).toList) := by
          rw [Bool.eq_iff_iff]
          simp only [bne_iff_ne, ne_eq, Int.natCast_inj, hfi, Bool.not_eq_false]
        rw [he])
    (fun fk => by rw [List.length_range, spec_l2Good_L1, if_neg (by simp)]) fu (by simp; omega)]
  rw [scan_all (l := List.range n.Fibers.length) (G := spec_l2Good_L2 fu n) (fibBadS n.Nodes.length n.Fibers) (fun i => false) (by simp; omega)
    (fun fk i hi => by
      have hi' : i < n.Fibers.length := by simpa using hi
      rw [spec_l2Good_L2, if_pos (by simpa using hi'), idx_gd f0 hi', List.getElem_range]
      simp only [Option.bind_some, l2Fiber_eq _ hb.2, fibBadS]
      by_cases h1 : (fibOk n.Nodes.length (gd n.Fibers i f0)) = false
      · simp [h1]
      rw [Bool.not_eq_false] at h1
      simp only [h1]
      by_cases h0 : 0 < i
      · rw [w64_dec h0 (by omega), idx_gd f0 (show i - 1 < n.Fibers.length by omega)]
        have h0' : ((i : Int) > 0) := by omega
        simp [h0, l2Before_eq, h0']
      · have h0' : ¬ ((i : Int) > 0) := by omega
        simp [h0, h0'])
    (fun fk => by rw [List.length_range, spec_l2Good_L2, if_neg (by simp)]) fu (by simp; omega), fibBad_eq _ hb.2]
  cases (List.range n.Nodes.length).any (nodeBad n.Nodes) <;> cases (List.range n.Fibers.length).any (fibBad n.Nodes.length n.Fibers) <;> rfl
structure NetF (n : Network) : Prop where
  lo : 2 ≤ n.Nodes.length
  hi : n.Nodes.length ≤ 8
  fib : n.Fibers.length ≤ 14
  each : ∀ f ∈ n.Fibers, 0 ≤ f.A ∧ f.A < f.B ∧ f.B < (n.Nodes.length : Int) ∧ 1 ≤ f.Length ∧ f.Length ≤ 5000 ∧ 0 ≤ f.Risk ∧ f.Risk ≤ 9
theorem netF {n : Network} (h : netOk n = true) : NetF n := by
  unfold netOk at h
  simp only [Bool.and_eq_true, decide_eq_true_eq, Bool.not_eq_true'] at h
  obtain ⟨⟨h1, h2⟩, h3, h4, h5⟩ := h
  refine ⟨h1, h2, h3, fun f hf => ?_⟩
  obtain ⟨i, hi, rfl⟩ := List.mem_iff_getElem.1 hf
  rw [Bool.eq_false_iff] at h5
  have h6 : fibBad n.Nodes.length n.Fibers i = false := by
    rw [Bool.eq_false_iff]
    intro h7
    exact h5 (List.any_eq_true.2 ⟨i, List.mem_range.2 hi, h7⟩)
  unfold fibBad at h6
  rw [Bool.or_eq_false_iff] at h6
  have h8 := h6.1
  rw [gd_in f0 hi] at h8
  simp only [Bool.not_eq_false', fibOk, Bool.and_eq_true, decide_eq_true_eq] at h8
  omega
end AT

namespace AT
theorem app_ok {α : Type} {l m : List α} (h : l.length + m.length ≤ 1099511627776) : app l m = some (l ++ m) := by unfold app; rw [if_pos h]
theorem indexI_eq {fu : Nat} (l : List Int) (v : Int) (h : l.length < fu) (hn : l.length ≤ 2097152) : slices_Index_int_int fu l v = some (if l.any (fun x => x == v) then ((l.findIdx fun x => x == v : Nat) : Int) else -1) := by
  unfold slices_Index_int_int
  rw [scan_all (l := l) (G := slices_Index_int_int_L1 fu l v) (fun x => x == v) (fun i => (i : Int)) (by omega)
    (fun fk i hi => by rw [slices_Index_int_int_L1, if_pos (by simpa using hi), idx_in hi, Option.bind_some, beq_symm' v])
    (fun fk => by rw [slices_Index_int_int_L1, if_neg (by simp)]) fu h]
  cases l.any (fun x => x == v) <;> rfl
theorem containsI_eq {fu : Nat} (l : List Int) (v : Int) (h : l.length < fu) (hn : l.length ≤ 2097152) : slices_Contains_int_int fu l v = some (l.any fun x => x == v) := by
  unfold slices_Contains_int_int
  rw [indexI_eq l v h hn]
  cases l.any (fun x => x == v)
  · rfl
  · simp
theorem l1Has_eq {fu : Nat} (l : List Int) (v : Int) (h : l.length < fu) (hn : l.length ≤ 2097152) : spec_l1Has fu l v = some (l.any fun x => x == v) := by
  unfold spec_l1Has
  rw [scan_all (l := l) (G := spec_l1Has_L1 fu l v) (fun x => x == v) (fun i => true) (by omega)
    (fun fk i hi => by rw [spec_l1Has_L1, if_pos (by simpa using hi), idx_in hi, Option.bind_some])
    (fun fk => by rw [spec_l1Has_L1, if_neg (by simp)]) fu h]
  cases l.any (fun x => x == v) <;> rfl
def oth (f : Fiber) (v : Int) : Int := if v = f.A then f.B else if v = f.B then f.A else -1
theorem oth_if {R : Type} (f : Fiber) (v : Int) (k : Int → R) : (if v == f.A then k f.B else if v == f.B then k f.A else k (-1)) = k (oth f v) := by
  unfold oth
  by_cases h1 : v = f.A
  · rw [if_pos (beq_iff_eq.2 h1), if_pos h1]
  · rw [if_neg (by simpa using h1), if_neg h1]
    by_cases h2 : v = f.B
    · rw [if_pos (beq_iff_eq.2 h2), if_pos h2]
    · rw [if_neg (by simpa using h2), if_neg h2]
theorem otherEnd_eq (fu : Nat) (f : Fiber) (v : Int) : impl_otherEnd fu f v = some (oth f v) := by
  exact oth_if f v some
theorem l2Other_eq (fu : Nat) (n : Network) (i : Nat) (v : Int) (h : i < n.Fibers.length) : spec_l2Other fu n (i : Int) v = some (oth (gd n.Fibers i f0) v) := by
  unfold spec_l2Other
  rw [idx_gd f0 h]
  exact oth_if _ v some
def rwalk (F : List Fiber) : List Int → List Int → Int → Option (List Int)
  | [], out, _ => some out
  | i :: r, out, v => if 0 ≤ i ∧ i < (F.length : Int) then (if oth (gd F i.toNat f0) v < 0 ∨ (out.any fun x => x == oth (gd F i.toNat f0) v) = true then none else rwalk F r (out ++ [oth (gd F i.toNat f0) v]) (oth (gd F i.toNat f0) v)) else none
def rnodes (n : Network) (r : Route) : Option (List Int) := if (0 ≤ r.Start ∧ r.Start < (n.Nodes.length : Int)) ∧ r.Fibers ≠ [] then rwalk n.Fibers r.Fibers [r.Start] r.Start else none
def gl (l : List Int) : Int := gd l (l.length - 1) 0
theorem gl_snoc (l : List Int) (x : Int) : gl (l ++ [x]) = x := by unfold gl gd; simp
theorem rwalk_len {F : List Fiber} : ∀ {fs out : List Int} {v : Int} {o : List Int}, rwalk F fs out v = some o → o.length = out.length + fs.length
  | [], out, v, o, h => by simp only [rwalk, Option.some.injEq] at h; subst h; simp
  | i :: r, out, v, o, h => by
    unfold rwalk at h
    split at h
    · split at h
      · cases h
      · have := rwalk_len h
        simp only [List.length_append, List.length_cons, List.length_nil] at this ⊢
        omega
    · cases h
theorem rwalk_in {F : List Fiber} : ∀ {fs out : List Int} {v : Int} {o : List Int}, rwalk F fs out v = some o → ∀ i ∈ fs, 0 ≤ i ∧ i < (F.length : Int)
  | [], out, v, o, h => by simp
  | i :: r, out, v, o, h => by
    unfold rwalk at h
    split at h
    · rename_i hi
      split at h
      · cases h
      · intro j hj
        rcases List.mem_cons.1 hj with rfl | hj
        · exact hi
        · exact rwalk_in h j hj
    · cases h
theorem visited_loop {fu : Nat} (hfu : 2097153 ≤ fu) (n : Network) (r : Route) (hn : n.Fibers.length ≤ 2097152) (hr : r.Fibers.length ≤ 2097152) : ∀ (fk i : Nat) (out : List Int) (v : Int), i ≤ r.Fibers.length → r.Fibers.length - i < fk → out.length = i + 1 →
    ∃ z, impl_visited_L1 fu n r fk out v i = some (match rwalk n.Fibers (r.Fibers.drop i) out v with | some o => .next (o, z) | none => .ret ([], false)) := by
  intro fk
  induction fk with
  | zero => intro i _ _ _ h; omega
  | succ fk ih =>
    intro i out v hi hk ho
    rw [impl_visited_L1]
    by_cases h : i < r.Fibers.length
    · rw [if_pos (by simpa using h), idx_in h, ← List.getElem_cons_drop h, rwalk]
      obtain ⟨e, he⟩ : ∃ e, e = r.Fibers[i] := ⟨_, rfl⟩
      simp only [← he, Option.bind_some, within_eq]
      rw [w64_in (by omega) (by omega)]
      by_cases hb : 0 ≤ e ∧ e < (n.Fibers.length : Int)
      · rw [if_pos hb]
        have hb' : (decide (0 ≤ e) && decide (e ≤ (n.Fibers.length : Int) - 1)) = true := by simp; omega
        have hx : idx n.Fibers e = some (gd n.Fibers e.toNat f0) := by
          have := idx_gd (l := n.Fibers) (i := e.toNat) f0 (by omega)
          rwa [Int.toNat_of_nonneg hb.1] at this
        simp only [hb', Bool.not_true, Bool.false_eq_true, if_false, hx, Option.bind_some, otherEnd_eq]
        obtain ⟨y, hy⟩ : ∃ y, y = oth (gd n.Fibers e.toNat f0) v := ⟨_, rfl⟩
        simp only [← hy, containsI_eq out y (show out.length < fu by omega) (by omega)]
        by_cases hn : y < 0 ∨ (out.any fun x => x == y) = true
        · rw [if_pos hn]
          refine ⟨(0, 0), ?_⟩
          rcases hn with h1 | h1
          · simp [h1]
          · by_cases h2 : y < 0 <;> simp [h1, h2]
        · rw [if_neg hn]
          have h1 : ¬ y < 0 := fun h => hn (.inl h)
          have h2 : (out.any fun x => x == y) = false := by rw [Bool.eq_false_iff]; exact fun h => hn (.inr h)
          simp only [h1, decide_false, Bool.false_eq_true, if_false, h2, Option.bind_some]
          rw [app_ok (by simp; omega), Option.bind_some, w64_inc h (by omega)]
          exact ih (i + 1) _ _ h (by omega) (by simp; omega)
      · rw [if_neg hb]
        have hb' : (decide (0 ≤ e) && decide (e ≤ (n.Fibers.length : Int) - 1)) = false := by rw [Bool.eq_false_iff]; simp; omega
        exact ⟨(0, 0), by simp [hb']⟩
    · obtain rfl : i = r.Fibers.length := by omega
      rw [if_neg (by simp), List.drop_length]
      exact ⟨_, rfl⟩
theorem visited_eq {fu : Nat} (hfu : 2097153 ≤ fu) (n : Network) (r : Route) (hn : n.Fibers.length ≤ 2097152) (hm : n.Nodes.length ≤ 2097152) (hr : r.Fibers.length ≤ 2097152) : impl_visited fu n r = some (match rnodes n r with | some o => (o, true) | none => ([], false)) := by
  unfold impl_visited
  simp only [within_eq, Option.bind_some]
  rw [w64_in (by omega) (by omega)]
  by_cases hs : 0 ≤ r.Start ∧ r.Start < (n.Nodes.length : Int)
  · have hb' : (decide (0 ≤ r.Start) && decide (r.Start ≤ (n.Nodes.length : Int) - 1)) = true := by simp; omega
    by_cases he : r.Fibers = []
    · have er : rnodes n r = none := by unfold rnodes; rw [if_neg fun h => h.2 he]
      simp [hb', he, er]
    · have er : rnodes n r = rwalk n.Fibers r.Fibers [r.Start] r.Start := by unfold rnodes; rw [if_pos ⟨hs, he⟩]
      have he' : ((r.Fibers.length : Int) == 0) = false := by
        rw [beq_eq_false_iff_ne]
        have := List.length_pos_iff.2 he
        omega
      obtain ⟨z, hz⟩ := visited_loop hfu n r hn hr fu 0 [r.Start] r.Start (by omega) (by omega) rfl
      rw [List.drop_zero, show ((0 : Nat) : Int) = 0 from rfl] at hz
      rw [er]
      simp only [hb', Bool.not_true, Bool.false_eq_true, if_false, he', Option.bind_some, hz]
      cases rwalk n.Fibers r.Fibers [r.Start] r.Start <;> rfl
  · have hb' : (decide (0 ≤ r.Start) && decide (r.Start ≤ (n.Nodes.length : Int) - 1)) = false := by rw [Bool.eq_false_iff]; simp; omega
    have er : rnodes n r = none := by unfold rnodes; rw [if_neg fun h => hs h.1]
    simp [hb', er]
theorem walk_loop {fu : Nat} (hfu : 2097153 ≤ fu) (n : Network) (r : Route) (hn : n.Fibers.length ≤ 2097152) (hr : r.Fibers.length ≤ 2097152) : ∀ (fk i : Nat) (out : List Int), i ≤ r.Fibers.length → r.Fibers.length - i < fk → out.length = i + 1 →
    ∃ z o', spec_l4Walk_L1 fu n r fk out i = some (match rwalk n.Fibers (r.Fibers.drop i) out (gl out) with | some o => .next (o, z) | none => .ret (o', false)) := by
  intro fk
  induction fk with
  | zero => intro i _ _ h; omega
  | succ fk ih =>
    intro i out hi hk ho
    rw [spec_l4Walk_L1]
    by_cases h : i < r.Fibers.length
    · rw [if_pos (by simpa using h), idx_in h, ← List.getElem_cons_drop h, rwalk]
      obtain ⟨e, he⟩ : ∃ e, e = r.Fibers[i] := ⟨_, rfl⟩
      have hlast : idx out (w64 ((out.length : Int) - 1)) = some (gl out) := by
        rw [w64_dec (by omega) (by omega), idx_gd 0 (by omega)]; rfl
      simp only [← he, Option.bind_some, l1In_eq, hlast]
      rw [w64_in (by omega) (by omega)]
      by_cases hb : 0 ≤ e ∧ e < (n.Fibers.length : Int)
      · rw [if_pos hb]
        have hb' : (decide (0 ≤ e) && decide (e ≤ (n.Fibers.length : Int) - 1)) = true := by simp; omega
        have hx : spec_l2Other fu n e (gl out) = some (oth (gd n.Fibers e.toNat f0) (gl out)) := by
          have := l2Other_eq fu n e.toNat (gl out) (by omega)
          rwa [Int.toNat_of_nonneg hb.1] at this
        simp only [hb', Bool.not_true, Bool.false_eq_true, if_false, hx, Option.bind_some]
        obtain ⟨y, hy⟩ : ∃ y, y = oth (gd n.Fibers e.toNat f0) (gl out) := ⟨_, rfl⟩
        simp only [← hy, l1Has_eq out y (show out.length < fu by omega) (by omega)]
        by_cases hn : y < 0 ∨ (out.any fun x => x == y) = true
        · rw [if_pos hn]
          refine ⟨0, out, ?_⟩
          rcases hn with h1 | h1
          · simp [h1]
          · by_cases h2 : y < 0 <;> simp [h1, h2]
        · rw [if_neg hn]
          have h1 : ¬ y < 0 := fun h => hn (.inl h)
          have h2 : (out.any fun x => x == y) = false := by rw [Bool.eq_false_iff]; exact fun h => hn (.inr h)
          simp only [h1, decide_false, Bool.false_eq_true, if_false, h2, Option.bind_some]
          rw [app_ok (by simp; omega), Option.bind_some, w64_inc h (by omega)]
          have := ih (i + 1) (out ++ [y]) h (by omega) (by simp; omega)
          rwa [gl_snoc] at this
      · rw [if_neg hb]
        have hb' : (decide (0 ≤ e) && decide (e ≤ (n.Fibers.length : Int) - 1)) = false := by rw [Bool.eq_false_iff]; simp; omega
        exact ⟨0, out, by simp [hb']⟩
    · obtain rfl : i = r.Fibers.length := by omega
      rw [if_neg (by simp), List.drop_length]
      exact ⟨_, [], rfl⟩
theorem walk_eq {fu : Nat} (hfu : 2097153 ≤ fu) (n : Network) (r : Route) (hn : n.Fibers.length ≤ 2097152) (hm : n.Nodes.length ≤ 2097152) (hr : r.Fibers.length ≤ 2097152) : ∃ o', spec_l4Walk fu n r = some (match rnodes n r with | some o => (o, true) | none => (o', false)) := by
  unfold spec_l4Walk
  simp only [l1In_eq, Option.bind_some]
  rw [w64_in (by omega) (by omega)]
  by_cases hs : 0 ≤ r.Start ∧ r.Start < (n.Nodes.length : Int)
  · have hb' : (decide (0 ≤ r.Start) && decide (r.Start ≤ (n.Nodes.length : Int) - 1)) = true := by simp; omega
    by_cases he : r.Fibers = []
    · have er : rnodes n r = none := by unfold rnodes; rw [if_neg fun h => h.2 he]
      exact ⟨[r.Start], by simp [hb', he, er]⟩
    · have er : rnodes n r = rwalk n.Fibers r.Fibers [r.Start] r.Start := by unfold rnodes; rw [if_pos ⟨hs, he⟩]
      have he' : ((r.Fibers.length : Int) == 0) = false := by
        rw [beq_eq_false_iff_ne]
        have := List.length_pos_iff.2 he
        omega
      obtain ⟨z, o', hz⟩ := walk_loop hfu n r hn hr fu 0 [r.Start] (by omega) (by omega) rfl
      rw [List.drop_zero, show ((0 : Nat) : Int) = 0 from rfl, show gl [r.Start] = r.Start from rfl] at hz
      refine ⟨o', ?_⟩
      rw [er]
      simp only [hb', Bool.not_true, Bool.false_eq_true, if_false, he', Option.bind_some, hz]
      cases rwalk n.Fibers r.Fibers [r.Start] r.Start <;> rfl
  · have hb' : (decide (0 ≤ r.Start) && decide (r.Start ≤ (n.Nodes.length : Int) - 1)) = false := by rw [Bool.eq_false_iff]; simp; omega
    refine ⟨[r.Start], ?_⟩
    have er : rnodes n r = none := by unfold rnodes; rw [if_neg fun h => hs h.1]
    simp [hb', er]
theorem l4Good_eq {fu : Nat} (hfu : 2097153 ≤ fu) (n : Network) (r : Route) (hB : NetB n) (hr : r.Fibers.length ≤ 2097152) : spec_l4Good fu n r = some (netOk n && (rnodes n r).isSome) := by
  unfold spec_l4Good
  rw [specNet_eq hfu n hB, Option.bind_some]
  obtain ⟨o', h⟩ := walk_eq hfu n r hB.2 hB.1.1 hr
  rw [h]
  cases netOk n
  · rfl
  · cases rnodes n r <;> rfl
theorem rnodes_len {n : Network} {r : Route} {o : List Int} (h : rnodes n r = some o) : o.length = r.Fibers.length + 1 := by
  unfold rnodes at h
  split at h
  · have := rwalk_len h
    simp only [List.length_cons, List.length_nil] at this
    omega
  · cases h
theorem rnodes_in {n : Network} {r : Route} {o : List Int} (h : rnodes n r = some o) : ∀ i ∈ r.Fibers, 0 ≤ i ∧ i < (n.Fibers.length : Int) := by
  unfold rnodes at h
  split at h
  · exact rwalk_in h
  · cases h
theorem short_of : ∀ (m : Nat) (l : List Int), l.Nodup → (∀ x ∈ l, 0 ≤ x ∧ x < (m : Int)) → l.length ≤ m
  | 0, l, _, h => by
    cases l with
    | nil => simp
    | cons x l => have := h x (by simp); omega
  | m + 1, l, hn, h => by
    have h1 := short_of m (l.erase (m : Int)) (hn.erase _) fun x hx => by
      have hx1 := List.mem_of_mem_erase hx
      have := h x hx1
      refine ⟨this.1, ?_⟩
      have hne : x ≠ (m : Int) := fun e => by
        subst e
        exact (hn.not_mem_erase) hx
      omega
    rw [List.length_erase] at h1
    split at h1 <;> omega
theorem oth_mem {f : Fiber} {v : Int} (h : 0 ≤ oth f v) : (v = f.A ∧ oth f v = f.B) ∨ (v = f.B ∧ oth f v = f.A) := by
  unfold oth at h ⊢
  split at h
  · rename_i h1; rw [if_pos h1]; exact .inl ⟨h1, rfl⟩
  · rename_i h1
    rw [if_neg h1]
    split at h
    · rename_i h2; rw [if_pos h2]; exact .inr ⟨h2, rfl⟩
    · omega
theorem rwalk_all {F : List Fiber} (P : Int → Prop) (hF : ∀ f ∈ F, P f.A ∧ P f.B) : ∀ {fs out : List Int} {v : Int} {o : List Int} (U : List Int), rwalk F fs out v = some o → out.Nodup → (∀ x ∈ out, P x) → v ∈ out → (∀ i ∈ U, (gd F i.toNat f0).A ∈ out ∧ (gd F i.toNat f0).B ∈ out) →
    o.Nodup ∧ (∀ x ∈ o, P x) ∧ fs.Nodup ∧ ∀ i ∈ fs, i ∉ U
  | [], out, v, o, U, h, h1, h2, h3, h4 => by
    simp only [rwalk, Option.some.injEq] at h
    subst h
    exact ⟨h1, h2, .nil, by simp⟩
  | i :: r, out, v, o, U, h, h1, h2, h3, h4 => by
    unfold rwalk at h
    split at h
    case isFalse => cases h
    rename_i hi
    split at h
    case isTrue => cases h
    rename_i hc
    obtain ⟨y, hy⟩ : ∃ y, y = oth (gd F i.toNat f0) v := ⟨_, rfl⟩
    rw [← hy] at h hc
    have hy0 : 0 ≤ y := by
      rcases Classical.em (y < 0) with h' | h'
      · exact absurd (.inl h') hc
      · omega
    have hny : y ∉ out := fun hm => hc (.inr (List.any_eq_true.2 ⟨y, hm, by simp⟩))
    have hfm : gd F i.toNat f0 ∈ F := gd_mem f0 (by omega)
    have hm := oth_mem (f := gd F i.toNat f0) (v := v) (by omega)
    rw [← hy] at hm
    have hPy : P y := by
      rcases hm with ⟨_, e⟩ | ⟨_, e⟩ <;> rw [e]
      · exact (hF _ hfm).2
      · exact (hF _ hfm).1
    have hiU : i ∉ U := fun hu => by
      have := h4 i hu
      rcases hm with ⟨_, e⟩ | ⟨_, e⟩ <;> rw [e] at hny
      · exact hny this.2
      · exact hny this.1
    obtain ⟨g1, g2, g3, g4⟩ := rwalk_all P hF (i :: U) h
      (List.nodup_append.2 ⟨h1, by simp, fun a ha b hb => by rw [List.mem_singleton] at hb; subst hb; exact fun e => hny (e ▸ ha)⟩)
      (fun x hx => by
        rcases List.mem_append.1 hx with hx | hx
        · exact h2 x hx
        · rw [List.mem_singleton] at hx; subst hx; exact hPy)
      (by simp)
      (fun j hj => by
        rcases List.mem_cons.1 hj with rfl | hj
        · rcases hm with ⟨e1, e2⟩ | ⟨e1, e2⟩
          · exact ⟨List.mem_append.2 (.inl (e1 ▸ h3)), List.mem_append.2 (.inr (by rw [e2]; simp))⟩
          · exact ⟨List.mem_append.2 (.inr (by rw [e2]; simp)), List.mem_append.2 (.inl (e1 ▸ h3))⟩
        · exact ⟨List.mem_append.2 (.inl (h4 j hj).1), List.mem_append.2 (.inl (h4 j hj).2)⟩)
    refine ⟨g1, g2, List.nodup_cons.2 ⟨fun hm => g4 i hm (by simp), g3⟩, fun j hj => ?_⟩
    rcases List.mem_cons.1 hj with rfl | hj
    · exact hiU
    · exact fun hu => g4 j hj (List.mem_cons_of_mem _ hu)
theorem rnodes_facts {n : Network} {r : Route} {o : List Int} (hn : NetF n) (h : rnodes n r = some o) : o.Nodup ∧ (∀ x ∈ o, 0 ≤ x ∧ x < (n.Nodes.length : Int)) ∧ r.Fibers.Nodup ∧ r.Fibers.length ≤ 7 ∧ r.Fibers ≠ [] ∧ 0 ≤ r.Start ∧ r.Start < (n.Nodes.length : Int) := by
  have hl := rnodes_len h
  unfold rnodes at h
  split at h
  case isFalse => cases h
  rename_i hs
  obtain ⟨g1, g2, g3, _⟩ := rwalk_all (fun x => 0 ≤ x ∧ x < (n.Nodes.length : Int)) (fun f hf => by have := hn.each f hf; omega) [] h (by simp) (by simpa using hs.1) (by simp) (by simp)
  have := short_of _ _ g1 g2
  have := hn.hi
  exact ⟨g1, g2, g3, by omega, hs.2, hs.1⟩
end AT

namespace AT
theorem less_eq (fu : Nat) (x y : Int) : cmp_Less_int fu x y = some (decide (x < y)) := by
  unfold cmp_Less_int cmp_isNaN_int
  have e : (x != x) = false := by simp
  simp [e]
theorem ins_loop {fu : Nat} : ∀ (fk j : Nat) (l : List Int), j < fk → j < l.length → l.length ≤ 2097152 → ∃ l' j', slices_insertionSortOrdered_int_L2 fu 0 fk l j = some (l', j') ∧ l'.Perm l := by
  intro fk
  induction fk with
  | zero => intro j _ h; omega
  | succ fk ih =>
    intro j l hk hj hl
    rw [slices_insertionSortOrdered_int_L2]
    by_cases h0 : 0 < j
    · have h0' : (j : Int) > 0 := by omega
      have hj1 : j - 1 < l.length := by omega
      simp only [h0', decide_true, if_true, idx_in hj, w64_dec h0 (show j ≤ 2097152 by omega), idx_in hj1, Option.bind_some, less_eq]
      by_cases hc : l[j] < l[j - 1]
      · have hj2 : j - 1 < (l.set j l[j - 1]).length := by rw [List.length_set]; exact hj1
        simp only [hc, decide_true, if_true, Int.toNat_natCast, idx_in hj2, Option.bind_some]
        obtain ⟨l', j', h1, h2⟩ := ih (j - 1) ((l.set j l[j - 1]).set (j - 1) l[j]) (by omega) (by simp; omega) (by simpa using hl)
        exact ⟨l', j', h1, h2.trans (List.set_set_perm hj hj1)⟩
      · simp only [hc, decide_false, Bool.false_eq_true, if_false]
        exact ⟨_, _, rfl, .refl _⟩
    · have h0' : ¬ (j : Int) > 0 := by omega
      simp only [h0', decide_false, Bool.false_eq_true, if_false, Option.bind_some]
      exact ⟨_, _, rfl, .refl _⟩
theorem ins_all {fu : Nat} (n : Nat) (hn : n ≤ 2097152) (hfu : n < fu) : ∀ (fk i : Nat) (l : List Int), n - i < fk → 1 ≤ i → l.length = n → ∃ l' i', slices_insertionSortOrdered_int_L1 fu 0 n fk l i = some (l', i') ∧ l'.Perm l := by
  intro fk
  induction fk with
  | zero => intro i _ h; omega
  | succ fk ih =>
    intro i l hk hi hl
    rw [slices_insertionSortOrdered_int_L1]
    by_cases h : i < n
    · have h' : (i : Int) < (n : Int) := by omega
      obtain ⟨l', j', h1, h2⟩ := ins_loop (fu := fu) fu i l (by omega) (by omega) (by omega)
      obtain ⟨l2, i2, h3, h4⟩ := ih (i + 1) l' (by omega) (by omega) (by rw [h2.length_eq]; exact hl)
      simp only [h', decide_true, if_true, h1, Option.bind_some, w64_inc h (show (n : Int) ≤ 9223372036854775807 by omega)]
      exact ⟨l2, i2, h3, h4.trans h2⟩
    · have h' : ¬ (i : Int) < (n : Int) := by omega
      simp only [h', decide_false, Bool.false_eq_true, if_false]
      exact ⟨_, _, rfl, .refl _⟩
theorem bind_sidx {s : ByteArray} {i : Int} {g : By → Int} (h : s.size = 256) (h0 : 0 ≤ i) (h1 : i < 256) : ∃ k, ((sidx s i).bind fun e => some (g e)) = some k := by
  unfold sidx
  have e : s[i.toNat]? = some (s[i.toNat]'(by omega)) := by simp
  rw [if_pos h0, e]
  exact ⟨_, rfl⟩
set_option maxRecDepth 20000 in
theorem tab_some {s : ByteArray} {i : Int} (h : s.size = 256) (h0 : 0 ≤ i) (h1 : i < 256) : ∃ k, (((sidx s i).bind fun e => some (w64 (0 + w64 e.n))).bind fun y => some y) = some k := by
  obtain ⟨k, hk⟩ := bind_sidx (g := fun e => w64 (0 + w64 e.n)) h h0 h1
  rw [hk]
  exact ⟨k, rfl⟩
set_option maxRecDepth 20000 in
theorem len8 {fu : Nat} {x : U64} (h0 : 0 ≤ x.n) (h : x.n < 256) : ∃ k, math_bits_Len fu x = some k := by
  unfold math_bits_Len math_bits_Len64
  have a1 : ¬ x.n ≥ 4294967296 := by omega
  have a2 : ¬ x.n ≥ 65536 := by omega
  have a3 : ¬ x.n ≥ 256 := by omega
  rw [if_neg (by simpa using a1), if_neg (by simpa using a2), if_neg (by simpa using a3)]
  have hw : wu8 x.n = x.n := by unfold wu8; omega
  rw [hw]
  exact tab_some rfl h0 h
theorem sort_ok {fu : Nat} (hfu : 2097153 ≤ fu) (l : List Int) (h : l.length ≤ 12) : ∃ l', slices_Sort_int_int fu l = some l' ∧ l'.Perm l := by
  unfold slices_Sort_int_int slices_pdqsortOrdered_int
  obtain ⟨k, hk⟩ := len8 (fu := fu) (x := (⟨wu64 (l.length : Int)⟩ : U64)) (by simp only [wu64]; omega) (by simp only [wu64]; omega)
  obtain ⟨fk, rfl⟩ := Nat.exists_eq_succ_of_ne_zero (show fu ≠ 0 by omega)
  obtain ⟨l', i', h1, h2⟩ := ins_all (fu := fk.succ) l.length (by omega) (by omega) fk.succ 1 l (by omega) (by omega) rfl
  rw [hk, Option.bind_some, slices_pdqsortOrdered_int_L1]
  have hd : decide (w64 ((l.length : Int) - 0) ≤ 12) = true := by rw [w64_in (by omega) (by omega)]; simp; omega
  have h01 : w64 (0 + 1) = ((1 : Nat) : Int) := by decide
  simp only [hd, if_true, slices_insertionSortOrdered_int, h01, h1, Option.bind_some]
  exact ⟨_, rfl, h2⟩
theorem compact_loop {fu : Nat} (l : List Int) (hn : l.Nodup) (hl : l.length ≤ 2097152) : ∀ (fk k : Nat), l.length - k < fk → 1 ≤ k → ∃ z, slices_Compact_int_int_L1 fu l fk k = some (.next z) := by
  intro fk
  induction fk with
  | zero => intro k h; omega
  | succ fk ih =>
    intro k hk h1
    rw [slices_Compact_int_int_L1]
    by_cases h : k < l.length
    · have h' : (k : Int) < (l.length : Int) := by omega
      have hne : (l[k] == l[k - 1]) = false := by
        rw [beq_eq_false_iff_ne]
        intro e
        have := (List.getElem_inj hn).1 e
        omega
      simp only [h', decide_true, if_true, idx_in h, w64_dec (show 0 < k by omega) (show k ≤ 2097152 by omega), idx_in (show k - 1 < l.length by omega), Option.bind_some, hne, Bool.false_eq_true, if_false, w64_inc h (show (l.length : Int) ≤ 9223372036854775807 by omega)]
      exact ih (k + 1) (by omega) (by omega)
    · have h' : ¬ (k : Int) < (l.length : Int) := by omega
      simp only [h', decide_false, Bool.false_eq_true, if_false]
      exact ⟨_, rfl⟩
theorem compact_ok {fu : Nat} (l : List Int) (hn : l.Nodup) (hl : l.length ≤ 2097152) (hfu : 2097153 ≤ fu) : slices_Compact_int_int fu l = some l := by
  unfold slices_Compact_int_int
  obtain ⟨z, hz⟩ := compact_loop (fu := fu) l hn hl fu 1 (by omega) (by omega)
  rw [show ((1 : Nat) : Int) = 1 from rfl] at hz
  rw [hz]
  split <;> rfl
def meets (a b : List Int) : Bool := a.any fun x => b.any fun y => y == x
theorem common_loop {fu : Nat} (a b : List Int) (ha : a.length ≤ 2097152) (hb : b.length ≤ 2097152) (hfu : 2097153 ≤ fu) : ∀ (fk i : Nat) (out : List Int), a.length - i < fk → i ≤ a.length → out.length ≤ i → ∃ z, impl_common_L1 fu a b fk out i = some (out ++ (a.drop i).filter (fun x => b.any fun y => y == x), z) := by
  intro fk
  induction fk with
  | zero => intro i _ h; omega
  | succ fk ih =>
    intro i out hk hi ho
    rw [impl_common_L1]
    by_cases h : i < a.length
    · have h' : (i : Int) < (a.length : Int) := by omega
      simp only [h', decide_true, if_true, idx_in h, Option.bind_some, containsI_eq b a[i] (show b.length < fu by omega) hb]
      rw [← List.getElem_cons_drop h, List.filter_cons]
      by_cases hc : (b.any fun y => y == a[i]) = true
      · rw [if_pos hc, if_pos hc, app_ok (by simp; omega), Option.bind_some, w64_inc h (by omega)]
        obtain ⟨z, hz⟩ := ih (i + 1) (out ++ [a[i]]) (by omega) h (by simp; omega)
        exact ⟨z, by rw [hz, List.append_assoc]; rfl⟩
      · rw [if_neg hc, if_neg hc, w64_inc h (by omega)]
        exact ih (i + 1) out (by omega) h (by omega)
    · obtain rfl : i = a.length := by omega
      have h' : ¬ ((a.length : Nat) : Int) < (a.length : Int) := by omega
      simp only [h', decide_false, Bool.false_eq_true, if_false, List.drop_length, List.filter_nil, List.append_nil]
      exact ⟨_, rfl⟩
theorem filter_pos {a b : List Int} : (0 < (a.filter fun x => b.any fun y => y == x).length) ↔ meets a b = true := by
  unfold meets
  rw [List.length_pos_iff_exists_mem, List.any_eq_true]
  constructor
  · rintro ⟨x, hx⟩
    rw [List.mem_filter] at hx
    exact ⟨x, hx⟩
  · rintro ⟨x, hx⟩
    exact ⟨x, List.mem_filter.2 hx⟩
theorem common_ok {fu : Nat} (a b : List Int) (ha : a.length ≤ 12) (hn : a.Nodup) (hb : b.length ≤ 2097152) (hfu : 2097153 ≤ fu) : ∃ c, impl_common fu a b = some c ∧ decide ((c.length : Int) > 0) = meets a b := by
  unfold impl_common
  obtain ⟨z, hz⟩ := common_loop a b (by omega) hb hfu fu 0 [] (by omega) (by omega) (by simp)
  rw [show ((0 : Nat) : Int) = 0 from rfl] at hz
  simp only [hz, Option.bind_some, List.nil_append, List.drop_zero]
  have hlen : (a.filter fun x => b.any fun y => y == x).length ≤ 12 := Nat.le_trans (List.length_filter_le _ _) ha
  obtain ⟨l', h1, h2⟩ := sort_ok hfu (a.filter fun x => b.any fun y => y == x) hlen
  have hnd : l'.Nodup := h2.nodup_iff.2 (hn.filter _)
  have hl' := h2.length_eq
  rw [h1, Option.bind_some, compact_ok l' hnd (by omega) hfu]
  refine ⟨l', rfl, ?_⟩
  rw [Bool.eq_iff_iff, decide_eq_true_eq, ← filter_pos]
  omega
end AT

namespace AT
theorem uses_eq {fu : Nat} (hfu : 2097153 ≤ fu) (r : Route) (g : List Int) (hr : r.Fibers.length ≤ 2097152) (hg : g.length ≤ 2097152) : spec_l4Uses fu r g = some (meets r.Fibers g) := by
  unfold spec_l4Uses
  rw [scan_all (l := r.Fibers) (G := spec_l4Uses_L1 fu r g) (fun x => g.any fun y => y == x) (fun i => true) (by omega)
    (fun fk i hi => by
      have h' : (i : Int) < (r.Fibers.length : Int) := by omega
      rw [spec_l4Uses_L1]
      simp only [h', decide_true, if_true, idx_in hi, Option.bind_some, l1Has_eq g r.Fibers[i] (show g.length < fu by omega) hg])
    (fun fk => by rw [spec_l4Uses_L1, if_neg (by simp)]) fu (by omega)]
  unfold meets
  cases r.Fibers.any fun x => g.any fun y => y == x <;> rfl
def blkOk (b : Block) : Bool := decide (0 ≤ b.First) && (decide (1 ≤ b.Count) && decide (b.First + b.Count ≤ 24))
theorem implBlk_eq (fu : Nat) (b : Block) : impl_IsValidBlock fu b = some (blkOk b) := by
  unfold impl_IsValidBlock blkOk
  simp only [within_eq, Option.bind_some]
  by_cases h0 : 0 ≤ b.First
  · by_cases h : 1 ≤ b.Count ∧ b.Count ≤ 24
    · have hc : (decide (1 ≤ b.Count) && decide (b.Count ≤ 24)) = true := by simpa using h
      rw [w64_in (by omega) (by omega)]
      simp only [ge_iff_le, h0, hc, decide_true, if_true, Option.bind_some, Option.some.injEq, Bool.true_and]
      rw [Bool.eq_iff_iff]
      simp only [Bool.and_eq_true, decide_eq_true_eq]
      omega
    · have hc : (decide (1 ≤ b.Count) && decide (b.Count ≤ 24)) = false := by rw [Bool.eq_false_iff]; simp only [ne_eq, Bool.and_eq_true, decide_eq_true_eq]; exact h
      simp only [ge_iff_le, h0, hc, decide_true, if_true, Bool.false_eq_true, if_false, Option.bind_some, Option.some.injEq]
      rw [Bool.eq_iff_iff]
      simp only [Bool.and_eq_true, decide_eq_true_eq, Bool.false_eq_true, false_iff]
      omega
  · simp [h0]
def bits (b : Block) : Int := (2 ^ b.Count.toNat - 1) * 2 ^ b.First.toNat
theorem pow_le24 {k : Nat} (h : k ≤ 24) : (1 : Int) ≤ 2 ^ k ∧ (2 : Int) ^ k ≤ 16777216 := by
  have h1 : (2 : Nat) ^ k ≤ 2 ^ 24 := Nat.pow_le_pow_right (by omega) h
  have h2 : 1 ≤ (2 : Nat) ^ k := Nat.one_le_two_pow
  have h3 : ((2 ^ k : Nat) : Int) = 2 ^ k := by norm_cast
  omega
theorem bits_bound {b : Block} (h : blkOk b = true) : 0 ≤ bits b ∧ bits b < 16777216 := by
  simp only [blkOk, Bool.and_eq_true, decide_eq_true_eq] at h
  have e : (2 : Int) ^ b.Count.toNat * 2 ^ b.First.toNat = 2 ^ (b.Count.toNat + b.First.toNat) := (Int.pow_add _ _ _).symm
  have h1 := pow_le24 (show b.Count.toNat ≤ 24 by omega)
  have h2 := pow_le24 (show b.First.toNat ≤ 24 by omega)
  have h3 := pow_le24 (show b.Count.toNat + b.First.toNat ≤ 24 by omega)
  unfold bits
  rw [Int.sub_mul, e, Int.one_mul]
  refine ⟨?_, by omega⟩
  have h4 : (2 : Int) ^ b.First.toNat ≤ 2 ^ (b.Count.toNat + b.First.toNat) := by
    have : (2 : Nat) ^ b.First.toNat ≤ 2 ^ (b.Count.toNat + b.First.toNat) := Nat.pow_le_pow_right (by omega) (by omega)
    have e1 : ((2 ^ b.First.toNat : Nat) : Int) = 2 ^ b.First.toNat := by norm_cast
    have e2 : ((2 ^ (b.Count.toNat + b.First.toNat) : Nat) : Int) = 2 ^ (b.Count.toNat + b.First.toNat) := by norm_cast
    omega
  omega
theorem shl_bits {b : Block} (h : blkOk b = true) : ((shl 1 b.Count).bind fun q => (shl (w64 (q - 1)) b.First).bind fun q2 => some q2) = some (bits b) := by
  have hb := bits_bound h
  simp only [blkOk, Bool.and_eq_true, decide_eq_true_eq] at h
  have h1 := pow_le24 (show b.Count.toNat ≤ 24 by omega)
  have m1 : min b.Count.toNat 64 = b.Count.toNat := by omega
  have m2 : min b.First.toNat 64 = b.First.toNat := by omega
  unfold shl
  rw [if_neg (show ¬ b.Count < 0 by omega), Option.bind_some, if_neg (show ¬ b.First < 0 by omega), m1, m2, Int.one_mul, w64_in (n := 2 ^ b.Count.toNat) (by omega) (by omega), w64_in (n := 2 ^ b.Count.toNat - 1) (by omega) (by omega)]
  have : (2 ^ b.Count.toNat - 1) * 2 ^ b.First.toNat = bits b := rfl
  rw [this, w64_in (by omega) (by omega)]
  rfl
theorem maskOf_eq {fu : Nat} {b : Block} (h : blkOk b = true) : impl_maskOf fu b = some (bits b) := shl_bits h
theorem wu64_in {n : Int} (h : 0 ≤ n) (h' : n < 18446744073709551616) : wu64 n = n := by unfold wu64; omega
theorem l8Bits_eq {fu : Nat} {b : Block} (h : blkOk b = true) : spec_l8Bits fu b = some (bits b) := by
  unfold spec_l8Bits
  have h' := h
  simp only [blkOk, Bool.and_eq_true, decide_eq_true_eq] at h'
  rw [wu64_in (by omega) (by omega), wu64_in (by omega) (by omega)]
  exact shl_bits h
structure LightF (n : Network) (x : Light) : Prop where
  nodup : x.Route.Fibers.Nodup
  short : x.Route.Fibers.length ≤ 7
  blk : blkOk x.Block = true
  route : ∃ o, rnodes n x.Route = some o
  id : 1 ≤ x.Id ∧ x.Id ≤ 999
theorem scan_prev {α R : Type} {l : List α} {G : Nat → Int → Option (Out Int R)} (p : Nat → Bool) (r : Nat → R) (hn : (l.length : Int) ≤ 9223372036854775807)
    (hG : ∀ fk (i : Nat) (h : i < l.length), (∀ j, j < i → p j = false) → G (fk + 1) i = if p i = true then some (.ret (r i)) else G fk (w64 ((i : Int) + 1)))
    (hz : ∀ fk, G (fk + 1) l.length = some (.next (l.length : Int))) : ∀ (fk i : Nat), l.length - i < fk → i ≤ l.length → (∀ j, j < i → p j = false) →
    (∃ k, k < l.length ∧ i ≤ k ∧ p k = true ∧ (∀ j, j < k → p j = false) ∧ G fk i = some (.ret (r k))) ∨ ((∀ j, j < l.length → p j = false) ∧ G fk i = some (.next (l.length : Int))) := by
  intro fk
  induction fk with
  | zero => intro i h; omega
  | succ fk ih =>
    intro i hk hi hp
    by_cases h : i < l.length
    · rw [hG fk i h hp]
      by_cases hc : p i = true
      · rw [if_pos hc]
        exact .inl ⟨i, h, Nat.le_refl _, hc, hp, rfl⟩
      · rw [if_neg hc, w64_inc h hn]
        rw [Bool.not_eq_true] at hc
        have hp' : ∀ j, j < i + 1 → p j = false := fun j hj => by
          rcases Nat.lt_or_ge j i with h' | h'
          · exact hp j h'
          · obtain rfl : j = i := by omega
            exact hc
        rcases ih (i + 1) (by omega) h hp' with ⟨k, k1, k2, k3, k4, k5⟩ | ⟨h1, h2⟩
        · exact .inl ⟨k, k1, by omega, k3, k4, k5⟩
        · exact .inr ⟨h1, h2⟩
    · obtain rfl : i = l.length := by omega
      rw [hz]
      exact .inr ⟨hp, rfl⟩
theorem scan_any {α R : Type} {l : List α} {G : Nat → Int → Option (Out Int R)} (p : Nat → Bool) (r : R) (hn : (l.length : Int) ≤ 9223372036854775807)
    (hG : ∀ fk (i : Nat) (h : i < l.length), (∀ j, j < i → p j = false) → G (fk + 1) i = if p i = true then some (.ret r) else G fk (w64 ((i : Int) + 1)))
    (hz : ∀ fk, G (fk + 1) l.length = some (.next (l.length : Int))) (fk : Nat) (hk : l.length < fk) : G fk 0 = some (if (List.range l.length).any p = true then .ret r else .next (l.length : Int)) := by
  rcases scan_prev p (fun _ => r) hn hG hz fk 0 (by omega) (by omega) (fun j h => by omega) with ⟨k, k1, -, k3, -, k5⟩ | ⟨h1, h2⟩
  · rw [if_pos (List.any_eq_true.2 ⟨k, List.mem_range.2 k1, k3⟩)]
    exact k5
  · rw [if_neg]
    · exact h2
    · intro h
      obtain ⟨k, k1, k2⟩ := List.any_eq_true.1 h
      rw [h1 k (List.mem_range.1 k1)] at k2
      cases k2
def l0 : Light := ⟨0, ⟨0, []⟩, ⟨0, 0⟩⟩
structure PlanF (p : Plan) : Prop where
  net : netOk p.Network = true
  short : p.Lights.length ≤ 12
  light : ∀ x ∈ p.Lights, LightF p.Network x
end AT

namespace AT
def MK (m : Int) : Prop := 0 ≤ m ∧ m < 16777216
theorem ofInt_nat {m : Int} (h : MK m) : (BitVec.ofInt 64 m).toNat = m.toNat := by
  rw [BitVec.toNat_ofInt]
  have : ((2 ^ 64 : Nat) : Int) = 18446744073709551616 := by decide
  rw [this]
  unfold MK at h
  omega
theorem band_eq {a b : Int} (ha : MK a) (hb : MK b) : band a b = ((a.toNat &&& b.toNat : Nat) : Int) := by
  unfold band
  rw [BitVec.toNat_and, ofInt_nat ha, ofInt_nat hb]
  have h1 : a.toNat &&& b.toNat < 2 ^ 24 := Nat.and_lt_two_pow _ (by unfold MK at hb; omega)
  exact w64_in (by omega) (by omega)
theorem bor_eq {a b : Int} (ha : MK a) (hb : MK b) : bor a b = ((a.toNat ||| b.toNat : Nat) : Int) := by
  unfold bor
  rw [BitVec.toNat_or, ofInt_nat ha, ofInt_nat hb]
  have h1 : a.toNat ||| b.toNat < 2 ^ 24 := Nat.or_lt_two_pow (by unfold MK at ha; omega) (by unfold MK at hb; omega)
  exact w64_in (by omega) (by omega)
theorem bor_mk {a b : Int} (ha : MK a) (hb : MK b) : MK (bor a b) := by
  rw [bor_eq ha hb]
  have h1 : a.toNat ||| b.toNat < 2 ^ 24 := Nat.or_lt_two_pow (by unfold MK at ha; omega) (by unfold MK at hb; omega)
  unfold MK
  omega
theorem mk0 : MK 0 := by unfold MK; omega
def apart (a b : Int) : Bool := band a b == 0
theorem apart_bor {a b c : Int} (ha : MK a) (hb : MK b) (hc : MK c) : apart (bor a b) c = (apart a c && apart b c) := by
  unfold apart
  rw [band_eq (bor_mk ha hb) hc, band_eq ha hc, band_eq hb hc, bor_eq ha hb, Int.toNat_natCast, Nat.and_or_distrib_right]
  rw [Bool.eq_iff_iff]
  simp only [beq_iff_eq, Bool.and_eq_true, Int.natCast_eq_zero, Nat.or_eq_zero_iff]
theorem apart_zero {c : Int} (hc : MK c) : apart 0 c = true := by
  unfold apart
  rw [band_eq mk0 hc]
  simp
theorem bits_mk {b : Block} (h : blkOk b = true) : MK (bits b) := bits_bound h
theorem bits_nat {b : Block} (h : blkOk b = true) : (bits b).toNat = (2 ^ b.Count.toNat - 1) * 2 ^ b.First.toNat := by
  have h1 : 1 ≤ (2 : Nat) ^ b.Count.toNat := Nat.one_le_two_pow
  have : bits b = (((2 ^ b.Count.toNat - 1) * 2 ^ b.First.toNat : Nat) : Int) := by
    unfold bits
    rw [Int.natCast_mul, Int.natCast_sub h1]
    norm_cast
  rw [this, Int.toNat_natCast]
theorem bits_test {b : Block} (h : blkOk b = true) (j : Nat) : (bits b).toNat.testBit j = (decide (b.First.toNat ≤ j) && decide (j - b.First.toNat < b.Count.toNat)) := by
  rw [bits_nat h, Nat.testBit_mul_two_pow, Nat.testBit_two_pow_sub_one]
theorem bits_apart {a b : Block} (ha : blkOk a = true) (hb : blkOk b = true) : apart (bits a) (bits b) = decide (a.First + a.Count ≤ b.First ∨ b.First + b.Count ≤ a.First) := by
  have ha' := ha
  have hb' := hb
  simp only [blkOk, Bool.and_eq_true, decide_eq_true_eq] at ha' hb'
  unfold apart
  rw [band_eq (bits_mk ha) (bits_mk hb), Bool.eq_iff_iff, beq_iff_eq, decide_eq_true_eq, Int.natCast_eq_zero]
  constructor
  · intro h
    rcases Classical.em (a.First + a.Count ≤ b.First ∨ b.First + b.Count ≤ a.First) with hc | hc
    · exact hc
    · have hj : ∃ j : Nat, a.First ≤ j ∧ (j : Int) < a.First + a.Count ∧ b.First ≤ j ∧ (j : Int) < b.First + b.Count := by
        rcases Classical.em (a.First ≤ b.First) with h1 | h1
        · exact ⟨b.First.toNat, by omega, by omega, by omega, by omega⟩
        · exact ⟨a.First.toNat, by omega, by omega, by omega, by omega⟩
      obtain ⟨j, j1, j2, j3, j4⟩ := hj
      have ht : ((bits a).toNat &&& (bits b).toNat).testBit j = true := by
        rw [Nat.testBit_and, bits_test ha, bits_test hb]
        simp only [Bool.and_eq_true, decide_eq_true_eq]
        omega
      rw [h, Nat.zero_testBit] at ht
      cases ht
  · intro h
    apply Nat.eq_of_testBit_eq
    intro j
    rw [Nat.testBit_and, bits_test ha, bits_test hb, Nat.zero_testBit, Bool.eq_false_iff]
    simp only [ne_eq, Bool.and_eq_true, decide_eq_true_eq]
    omega
theorem meets_comm (a b : List Int) : meets a b = meets b a := by
  rw [Bool.eq_iff_iff]
  unfold meets
  simp only [List.any_eq_true, beq_iff_eq]
  constructor
  · rintro ⟨x, hx, y, hy, rfl⟩; exact ⟨y, hy, y, hx, rfl⟩
  · rintro ⟨x, hx, y, hy, rfl⟩; exact ⟨y, hy, y, hx, rfl⟩
end AT

namespace AT
def r0 : Request := ⟨⟨0, []⟩, 0⟩
def b0 : Block := ⟨0, 0⟩
def reqBad (n : Network) (x : Request) : Bool := !(rnodes n x.Route).isSome || !(decide (1 ≤ x.Count) && decide (x.Count ≤ 24))
def reqsOk (n : Network) (l : List Request) : Bool := netOk n && (decide (l.length ≤ 7) && !l.any (reqBad n))
def ReqB (l : List Request) : Prop := l.length ≤ 2097152 ∧ ∀ x ∈ l, x.Route.Fibers.length ≤ 2097152
theorem specReqs_eq {fu : Nat} (hfu : 2097153 ≤ fu) (n : Network) (l : List Request) (hB : NetB n) (hl : ReqB l) : spec_l12Good fu n l = some (reqsOk n l) := by
  have hL := hl.1
  unfold spec_l12Good reqsOk
  rw [specNet_eq hfu n hB]
  cases hv : netOk n
  · rfl
  simp only [Option.bind_some, Bool.not_true, Bool.false_eq_true, if_false, Bool.true_and]
  by_cases h7 : l.length ≤ 7
  · have h7' : ¬ ((l.length : Int) > 7) := by omega
    simp only [h7, h7', decide_true, decide_false, Bool.false_eq_true, if_false, Bool.true_and]
    rw [scan_all (l := l) (G := spec_l12Good_L1 fu n l) (reqBad n) (fun _ => false) (by omega)
      (fun fk i hi => by
        have h' : (i : Int) < (l.length : Int) := by omega
        rw [spec_l12Good_L1]
        simp only [h', decide_true, if_true, idx_in hi, Option.bind_some, l4Good_eq hfu n _ hB (hl.2 _ (List.getElem_mem hi)), hv, Bool.true_and, l1In_eq]
        cases hq : (rnodes n l[i].Route).isSome <;> simp [reqBad, hq])
      (fun fk => by rw [spec_l12Good_L1, if_neg (by simp)]) fu (by omega)]
    cases l.any (reqBad n) <;> rfl
  · have h7' : (l.length : Int) > 7 := by omega
    simp only [h7, h7', decide_true, decide_false, if_true, Bool.false_and]
theorem implReqs_eq {fu : Nat} (hfu : 2097153 ≤ fu) (n : Network) (l : List Request) (hB : NetB n) (hl : ReqB l) : impl_IsValidRequests fu n l = some (reqsOk n l) := by
  have hL := hl.1
  unfold impl_IsValidRequests reqsOk
  rw [implNet_eq hfu n hB]
  cases hv : netOk n
  · rfl
  simp only [Option.bind_some, if_true, Bool.true_and]
  by_cases h7 : l.length ≤ 7
  · have h7' : (l.length : Int) ≤ 7 := by omega
    simp only [h7, h7', decide_true, if_true, Bool.true_and]
    unfold slices_ContainsFunc_impl_Request_impl_Request_of_IsValidRequests_c1 slices_IndexFunc_impl_Request_impl_Request_of_IsValidRequests_c1
    rw [scan_all (l := l) (G := slices_IndexFunc_impl_Request_impl_Request_of_IsValidRequests_c1_L1 fu l n) (reqBad n) (fun i => (i : Int)) (by omega)
      (fun fk i hi => by
        have h' : (i : Int) < (l.length : Int) := by omega
        rw [slices_IndexFunc_impl_Request_impl_Request_of_IsValidRequests_c1_L1]
        simp only [h', decide_true, if_true, idx_in hi, Option.bind_some, impl_IsValidRequests_c1, visited_eq hfu n l[i].Route hB.2 hB.1.1 (hl.2 _ (List.getElem_mem hi)), within_eq]
        cases hq : rnodes n l[i].Route <;> simp [reqBad, hq])
      (fun fk => by rw [slices_IndexFunc_impl_Request_impl_Request_of_IsValidRequests_c1_L1, if_neg (by simp)]) fu (by omega)]
    cases l.any (reqBad n) <;> simp [Out.on]
  · have h7' : ¬ ((l.length : Int) ≤ 7) := by omega
    simp only [h7, h7', decide_false, Bool.false_eq_true, if_false, Bool.false_and, Option.bind_some]
structure ReqF (l : List Request) : Prop where
  len : l.length ≤ 7
  each : ∀ x ∈ l, x.Route.Fibers.Nodup ∧ x.Route.Fibers.length ≤ 8 ∧ 1 ≤ x.Count ∧ x.Count ≤ 24
theorem reqF {n : Network} {l : List Request} (h : reqsOk n l = true) : ReqF l := by
  unfold reqsOk at h
  simp only [Bool.and_eq_true, decide_eq_true_eq, Bool.not_eq_true'] at h
  obtain ⟨h1, h2, h3⟩ := h
  refine ⟨h2, fun x hx => ?_⟩
  rw [List.any_eq_false] at h3
  have h4 := h3 x hx
  unfold reqBad at h4
  cases ho : rnodes n x.Route with
  | none => rw [ho] at h4; simp at h4
  | some o =>
    rw [ho] at h4
    simp at h4
    obtain ⟨-, -, f1, f2, -⟩ := rnodes_facts (netF h1) ho
    exact ⟨f1, by omega, h4.1, h4.2⟩
theorem ReqF.at_ {l : List Request} (h : ReqF l) {i : Nat} (hi : i < l.length) : (gd l i r0).Route.Fibers.Nodup ∧ (gd l i r0).Route.Fibers.length ≤ 8 ∧ 1 ≤ (gd l i r0).Count ∧ (gd l i r0).Count ≤ 24 := by
  rw [gd_in r0 hi]; exact h.each _ (List.getElem_mem hi)
def cf (a b : Request) : Bool := meets a.Route.Fibers b.Route.Fibers
theorem cf_comm (a b : Request) : cf a b = cf b a := meets_comm _ _
theorem specCf_eq {fu : Nat} (hfu : 2097153 ≤ fu) {l : List Request} (h : ReqF l) {i k : Nat} (hi : i < l.length) (hk : k < l.length) : spec_l12Conflict fu (gd l i r0) (gd l k r0) = some (cf (gd l i r0) (gd l k r0)) := by
  have h1 := h.at_ hi
  have h2 := h.at_ hk
  unfold spec_l12Conflict
  rw [uses_eq hfu _ _ (by omega) (by omega)]
  rfl
theorem implCf_eq {fu : Nat} (hfu : 2097153 ≤ fu) {l : List Request} (h : ReqF l) {i k : Nat} (hi : i < l.length) (hk : k < l.length) : impl_conflict fu (gd l i r0) (gd l k r0) = some (cf (gd l i r0) (gd l k r0)) := by
  have h1 := h.at_ hi
  have h2 := h.at_ hk
  unfold impl_conflict
  obtain ⟨c, hc, hd⟩ := common_ok (fu := fu) (gd l i r0).Route.Fibers (gd l k r0).Route.Fibers (by omega) h1.1 (by omega) hfu
  rw [hc, Option.bind_some, hd]
  rfl
end AT

namespace AT
def bt (s i : Nat) : Bool := decide (s / 2 ^ i % 2 = 1)
theorem shr_nat (s i : Nat) (hi : i ≤ 64) : shr (s : Int) (i : Int) = some ((s / 2 ^ i : Nat) : Int) := by
  unfold shr
  rw [if_neg (by omega), Int.toNat_natCast, Nat.min_eq_left hi, Int.fdiv_eq_ediv_of_nonneg _ (Int.pow_nonneg (by omega))]
  congr 1
theorem band1 {q : Nat} (h : q < 16777216) : band (q : Int) 1 = ((q % 2 : Nat) : Int) := by
  rw [band_eq ⟨by omega, by omega⟩ ⟨by omega, by omega⟩]
  congr 1
  rw [Int.toNat_natCast]
  exact Nat.and_one_is_mod q
theorem bit_eq {s i : Nat} (hs : s < 16777216) (hi : i ≤ 64) : (band ((s / 2 ^ i : Nat) : Int) 1 == 1) = bt s i := by
  rw [band1 (Nat.lt_of_le_of_lt (Nat.div_le_self _ _) hs)]
  unfold bt
  rw [Bool.eq_iff_iff, beq_iff_eq, decide_eq_true_eq]
  omega
theorem bit0_eq {s i : Nat} (hs : s < 16777216) (hi : i ≤ 64) : (band ((s / 2 ^ i : Nat) : Int) 1 == 0) = !bt s i := by
  rw [band1 (Nat.lt_of_le_of_lt (Nat.div_le_self _ _) hs)]
  unfold bt
  rw [Bool.eq_iff_iff, beq_iff_eq, Bool.not_eq_true', decide_eq_false_iff_not]
  omega
theorem shl1 {n : Nat} (h : n ≤ 7) : shl 1 (n : Int) = some ((2 ^ n : Nat) : Int) := by
  have : ∀ n : Fin 8, shl 1 ((n : Nat) : Int) = some ((2 ^ (n : Nat) : Nat) : Int) := by decide +kernel
  exact this ⟨n, by omega⟩
theorem pow7 {n : Nat} (h : n ≤ 7) : 1 ≤ 2 ^ n ∧ 2 ^ n ≤ 128 := by
  have : ∀ n : Fin 8, 1 ≤ 2 ^ (n : Nat) ∧ 2 ^ (n : Nat) ≤ 128 := by decide
  exact this ⟨n, by omega⟩
theorem wu_nat {n : Nat} (h : n ≤ 2097152) : wu64 (n : Int) = (n : Int) := wu64_in (by omega) (by omega)
def sumTo (l : List Request) (s : Nat) : Nat → Int
  | 0 => 0
  | i + 1 => sumTo l s i + if bt s i = true then (gd l i r0).Count else 0
theorem sumTo_in {l : List Request} (h : ReqF l) (s : Nat) : ∀ {i : Nat}, i ≤ l.length → 0 ≤ sumTo l s i ∧ sumTo l s i ≤ 24 * (i : Int)
  | 0, _ => ⟨by simp [sumTo], by simp [sumTo]⟩
  | i + 1, hi => by
    have := sumTo_in h s (show i ≤ l.length by omega)
    have := h.at_ (show i < l.length by omega)
    rw [sumTo]
    split <;> omega
def badI (l : List Request) (s i : Nat) : Bool := bt s i && (List.range i).any fun k => bt s k && !cf (gd l i r0) (gd l k r0)
def clq (l : List Request) (s : Nat) : Bool := !(List.range l.length).any (badI l s)
theorem sum_loop {fu : Nat} {l : List Request} (h : ReqF l) {s : Nat} (hs : s < 16777216) : ∀ (fk i : Nat), i ≤ l.length → l.length - i < fk → impl_cliqueBound_L2 fu l s fk (sumTo l s i) i = some (sumTo l s l.length, (l.length : Int)) := by
  have h7 := h.len
  intro fk
  induction fk with
  | zero => intro i _ h; omega
  | succ fk ih =>
    intro i hi hk
    rw [impl_cliqueBound_L2]
    by_cases hil : i < l.length
    · have h1 := h.at_ hil
      have h2 := sumTo_in h s hi
      rw [if_pos (by simpa using hil), idx_gd r0 hil, Option.bind_some, shr_nat s i (by omega), Option.bind_some, bit_eq hs (by omega)]
      have hn := ih (i + 1) hil (by omega)
      rw [sumTo] at hn
      have hw : w64 (sumTo l s i + (gd l i r0).Count) = sumTo l s i + (gd l i r0).Count := w64_in (by omega) (by omega)
      rw [hw, w64_inc hil (by omega)]
      clear hw
      cases hb : bt s i
      · rw [hb] at hn
        simp only [Bool.false_eq_true, if_false, Int.add_zero] at hn ⊢
        exact hn
      · rw [hb] at hn
        simp only [if_true] at hn ⊢
        exact hn
    · obtain rfl : i = l.length := by omega
      rw [if_neg (by simp)]
theorem isClique_eq {fu : Nat} (hfu : 2097153 ≤ fu) {l : List Request} (h : ReqF l) {s : Nat} (hs : s < 16777216) : impl_isClique fu l s = some (clq l s) := by
  have h7 := h.len
  unfold impl_isClique clq
  have inner : ∀ i : Nat, i < l.length → impl_isClique_L2 fu l s i fu 0 = some (if badI l s i = true then .ret false else .next (i : Int)) := by
    intro i hi
    have := scan_any (l := List.range i) (G := impl_isClique_L2 fu l s i) (fun k => bt s i && (bt s k && !cf (gd l i r0) (gd l k r0))) false (by simp; omega)
      (fun fk k hk _ => by
        have hk' : k < i := by simpa using hk
        rw [impl_isClique_L2, if_pos (by simpa using hk'), shr_nat s i (by omega), Option.bind_some, bit_eq hs (by omega), shr_nat s k (by omega), Option.bind_some, bit_eq hs (by omega), idx_gd r0 hi, Option.bind_some, idx_gd r0 (show k < l.length by omega), Option.bind_some, implCf_eq hfu h hi (by omega), Option.bind_some]
        cases bt s i <;> cases bt s k <;> simp)
      (fun fk => by rw [List.length_range, impl_isClique_L2, if_neg (by simp)]) fu (by simp; omega)
    rw [this, List.length_range]
    have e : (List.range i).any (fun k => bt s i && (bt s k && !cf (gd l i r0) (gd l k r0))) = badI l s i := by
      unfold badI
      cases bt s i
      · simp
      · simp
    rw [e]
  have outer := scan_any (l := l) (G := impl_isClique_L1 fu l s) (badI l s) false (by omega)
    (fun fk i hi _ => by
      rw [impl_isClique_L1, if_pos (by simpa using hi), inner i hi, Option.bind_some]
      cases badI l s i <;> rfl)
    (fun fk => by rw [impl_isClique_L1, if_neg (by simp)]) fu (by omega)
  rw [outer]
  cases (List.range l.length).any (badI l s) <;> rfl
theorem specClique_eq {fu : Nat} (hfu : 2097153 ≤ fu) {l : List Request} (h : ReqF l) {s : Nat} (hs : s < 16777216) : spec_l12Clique fu l s = some (if clq l s = true then sumTo l s l.length else -1) := by
  have h7 := h.len
  unfold spec_l12Clique clq
  have inner : ∀ i : Nat, i < l.length → spec_l12Clique_L2 fu l s i fu 0 = some (if ((List.range i).any fun k => bt s k && !cf (gd l i r0) (gd l k r0)) = true then .ret (-1) else .next (i : Int)) := by
    intro i hi
    have := scan_any (l := List.range i) (G := spec_l12Clique_L2 fu l s i) (fun k => bt s k && !cf (gd l i r0) (gd l k r0)) (-1) (by simp; omega)
      (fun fk k hk _ => by
        have hk' : k < i := by simpa using hk
        rw [spec_l12Clique_L2, if_pos (by simpa using hk'), wu_nat (by omega), shr_nat s k (by omega), Option.bind_some, bit_eq hs (by omega), idx_gd r0 hi, Option.bind_some, idx_gd r0 (show k < l.length by omega), Option.bind_some, specCf_eq hfu h hi (by omega), Option.bind_some]
        cases bt s k <;> simp)
      (fun fk => by rw [List.length_range, spec_l12Clique_L2, if_neg (by simp)]) fu (by simp; omega)
    rw [this, List.length_range]
  have outer : ∀ (fk i : Nat), i ≤ l.length → l.length - i < fk → (∀ j, j < i → badI l s j = false) → spec_l12Clique_L1 fu l s fk i (sumTo l s i) = some (if (List.range l.length).any (badI l s) = true then .ret (-1) else .next ((l.length : Int), sumTo l s l.length)) := by
    intro fk
    induction fk with
    | zero => intro i _ h; omega
    | succ fk ih =>
      intro i hi hk hb
      rw [spec_l12Clique_L1]
      by_cases hil : i < l.length
      · have h1 := h.at_ hil
        have h2 := sumTo_in h s hi
        have hw : w64 (sumTo l s i + (gd l i r0).Count) = sumTo l s i + (gd l i r0).Count := w64_in (by omega) (by omega)
        rw [if_pos (by simpa using hil), wu_nat (by omega), shr_nat s i (by omega), Option.bind_some, bit0_eq hs (by omega), idx_gd r0 hil, Option.bind_some, inner i hil, Option.bind_some, hw, w64_inc hil (by omega)]
        clear hw
        have hn := ih (i + 1) hil (by omega)
        rw [sumTo] at hn
        cases hbi : bt s i
        · rw [hbi] at hn
          simp only [Bool.false_eq_true, if_false, Int.add_zero, Bool.not_false, if_true] at hn ⊢
          refine hn fun j hj => ?_
          rcases Nat.lt_or_ge j i with h' | h'
          · exact hb j h'
          · obtain rfl : j = i := by omega
            unfold badI; rw [hbi]; rfl
        · rw [hbi] at hn
          simp only [Bool.not_true, Bool.false_eq_true, if_false, if_true] at hn ⊢
          have e : badI l s i = (List.range i).any fun k => bt s k && !cf (gd l i r0) (gd l k r0) := by unfold badI; rw [hbi]; rfl
          rw [← e]
          cases hbad : badI l s i
          · simp only [Bool.false_eq_true, if_false, Out.on]
            refine hn fun j hj => ?_
            rcases Nat.lt_or_ge j i with h' | h'
            · exact hb j h'
            · obtain rfl : j = i := by omega
              exact hbad
          · rw [if_pos (List.any_eq_true.2 ⟨i, List.mem_range.2 hil, hbad⟩)]
            rfl
      · obtain rfl : i = l.length := by omega
        rw [if_neg (by simp), if_neg]
        intro hany
        obtain ⟨j, j1, j2⟩ := List.any_eq_true.1 hany
        rw [hb j (List.mem_range.1 j1)] at j2
        cases j2
  have := outer fu 0 (by omega) (by omega) (fun j hj => by omega)
  rw [show ((0 : Nat) : Int) = 0 from rfl, sumTo] at this
  rw [this]
  cases (List.range l.length).any (badI l s) <;> rfl
def stepB (l : List Request) (m : Int × Nat) (s : Nat) : Int × Nat := if sumTo l s l.length > m.1 ∧ clq l s = true then (sumTo l s l.length, s) else m
def bndF (l : List Request) (k : Nat) : Int × Nat := (List.range k).foldl (stepB l) (0, 0)
theorem bndF_succ (l : List Request) (k : Nat) : bndF l (k + 1) = stepB l (bndF l k) k := by
  unfold bndF; rw [List.range_succ, List.foldl_append]; rfl
theorem bndF_in {l : List Request} (h : ReqF l) : ∀ (k : Nat), 0 ≤ (bndF l k).1 ∧ (bndF l k).1 ≤ 168 ∧ (bndF l k).2 ≤ k
  | 0 => ⟨by simp [bndF], by simp [bndF], by simp [bndF]⟩
  | k + 1 => by
    have h7 := h.len
    have h1 := bndF_in h k
    have := sumTo_in h k (Nat.le_refl l.length)
    rw [bndF_succ]
    unfold stepB
    split
    · refine ⟨?_, ?_, ?_⟩ <;> simp only <;> omega
    · refine ⟨h1.1, ?_, ?_⟩ <;> omega
theorem implBound_loop {fu : Nat} (hfu : 2097153 ≤ fu) {l : List Request} (h : ReqF l) (q : Nat) (hq : q ≤ 128) : ∀ (fk i : Nat), i ≤ q → q - i < fk → impl_cliqueBound_L1 fu l q fk (bndF l i).1 i (bndF l i).2 = some ((bndF l q).1, (q : Int), ((bndF l q).2 : Int)) := by
  have h7 := h.len
  intro fk
  induction fk with
  | zero => intro i _ h; omega
  | succ fk ih =>
    intro i hi hk
    rw [impl_cliqueBound_L1]
    by_cases hil : i < q
    · have hs := sum_loop (fu := fu) h (show i < 16777216 by omega) fu 0 (by omega) (by omega)
      rw [sumTo, show ((0 : Nat) : Int) = 0 from rfl] at hs
      rw [if_pos (by simpa using hil), hs, Option.bind_some, isClique_eq hfu h (show i < 16777216 by omega), Option.bind_some, w64_inc hil (by omega)]
      have hn := ih (i + 1) hil (by omega)
      rw [bndF_succ] at hn
      unfold stepB at hn
      by_cases hg : sumTo l i l.length > (bndF l i).1
      · simp only [hg, decide_true, if_true, Option.bind_some, true_and] at hn ⊢
        cases hc : clq l i
        · rw [hc] at hn
          simp only [Bool.false_eq_true, if_false] at hn ⊢
          exact hn
        · rw [hc] at hn
          simp only [if_true] at hn ⊢
          exact hn
      · simp only [hg, decide_false, Bool.false_eq_true, if_false, Option.bind_some, false_and] at hn ⊢
        exact hn
    · obtain rfl : i = q := by omega
      rw [if_neg (by simp)]
theorem implBound_eq {fu : Nat} (hfu : 2097153 ≤ fu) {l : List Request} (h : ReqF l) : impl_cliqueBound fu l = some ((bndF l (2 ^ l.length)).1, ((bndF l (2 ^ l.length)).2 : Int)) := by
  have h7 := h.len
  have hp := pow7 h7
  unfold impl_cliqueBound
  have := implBound_loop hfu h (2 ^ l.length) hp.2 fu 0 (by omega) (by omega)
  rw [show bndF l 0 = (0, 0) from rfl, show ((0 : Nat) : Int) = 0 from rfl] at this
  rw [shl1 h7, Option.bind_some, this]
  rfl
theorem specBound_loop {fu : Nat} (hfu : 2097153 ≤ fu) {l : List Request} (h : ReqF l) : ∀ (fk i : Nat), i ≤ 2 ^ l.length → 2 ^ l.length - i < fk → spec_l12Bound_L1 fu l fk (bndF l i).1 (bndF l i).2 i = some ((bndF l (2 ^ l.length)).1, ((bndF l (2 ^ l.length)).2 : Int), ((2 ^ l.length : Nat) : Int)) := by
  have h7 := h.len
  have hp := pow7 h7
  intro fk
  induction fk with
  | zero => intro i _ h; omega
  | succ fk ih =>
    intro i hi hk
    rw [spec_l12Bound_L1, wu_nat (by omega), shl1 h7, Option.bind_some]
    by_cases hil : i < 2 ^ l.length
    · have hc0 := specClique_eq hfu h (show i < 16777216 by omega)
      rw [if_pos (decide_eq_true (by exact_mod_cast hil)), hc0, Option.bind_some, w64_inc hil (by omega)]
      have hn := ih (i + 1) hil (by omega)
      have hb := (bndF_in h i).1
      rw [bndF_succ] at hn
      unfold stepB at hn
      cases hc : clq l i
      · rw [hc] at hn
        have h1 : ¬ ((-1 : Int) > (bndF l i).1) := by omega
        simp only [Bool.false_eq_true, if_false, and_false, h1, decide_false] at hn ⊢
        exact hn
      · rw [hc] at hn
        simp only [if_true, and_true] at hn ⊢
        by_cases hg : sumTo l i l.length > (bndF l i).1
        · simp only [hg, decide_true, if_true] at hn ⊢
          exact hn
        · simp only [hg, decide_false, Bool.false_eq_true, if_false] at hn ⊢
          exact hn
    · obtain rfl : i = 2 ^ l.length := by omega
      rw [if_neg (by simp)]
theorem bndF_one {l : List Request} : bndF l 1 = (0, 0) := by
  rw [bndF_succ]
  have : ∀ i, sumTo l 0 i = 0 := by
    intro i
    induction i with
    | zero => rfl
    | succ i ih => rw [sumTo, ih]; simp [bt]
  unfold stepB
  rw [this, show bndF l 0 = (0, 0) from rfl, if_neg (by simp)]
theorem specBound_eq {fu : Nat} (hfu : 2097153 ≤ fu) {l : List Request} (h : ReqF l) : spec_l12Bound fu l = some ((bndF l (2 ^ l.length)).1, ((bndF l (2 ^ l.length)).2 : Int)) := by
  have h7 := h.len
  have hp := pow7 h7
  unfold spec_l12Bound
  have := specBound_loop hfu h fu 1 (by omega) (by omega)
  rw [bndF_one, show ((1 : Nat) : Int) = 1 from rfl, show ((0 : Nat) : Int) = 0 from rfl] at this
  rw [this]
  rfl
end AT

namespace AT
end AT

namespace AT
theorem app_nil {α : Type} {l : List α} (h : l.length ≤ 1099511627776) : app ([] : List α) l = some l := by rw [app_ok (by simpa using h)]; rfl
def fits (m C : Int) : List Int := ((List.range' 0 (25 - C.toNat)).filter fun t : Nat => apart m (bits ⟨(t : Int), C⟩)).map fun t : Nat => (t : Int)
theorem fits_loop {fu : Nat} (m C : Int) (N : Nat) (hN : (N : Int) + C = 25) (h1 : 1 ≤ C) : ∀ (fk k s : Nat) (out : List Int), N = s + k → k < fk → out.length ≤ s →
    ∃ z, spec_l8Fits_L1 fu m C fk out s = some (out ++ (((List.range' s k).filter fun t : Nat => apart m (bits ⟨(t : Int), C⟩)).map fun t : Nat => (t : Int)), z) := by
  intro fk
  induction fk with
  | zero => intro k s _ _ h; omega
  | succ fk ih =>
    intro k s out hs hk ho
    have hw0 : w64 ((s : Int) + C) = (s : Int) + C := w64_in (by omega) (by omega)
    rw [spec_l8Fits_L1, hw0]
    clear hw0
    cases k with
    | zero =>
      have h' : ¬ (s : Int) + C ≤ 24 := by omega
      simp only [h', decide_false, Bool.false_eq_true, if_false, List.range'_zero, List.filter_nil, List.map_nil, List.append_nil]
      exact ⟨_, rfl⟩
    | succ k =>
      have h' : (s : Int) + C ≤ 24 := by omega
      have hb : blkOk ⟨(s : Int), C⟩ = true := by simp only [blkOk, Bool.and_eq_true, decide_eq_true_eq]; omega
      obtain ⟨c, hc⟩ : ∃ c, apart m (bits ⟨(s : Int), C⟩) = c := ⟨_, rfl⟩
      obtain ⟨b, hb1, hb2⟩ : ∃ b, spec_l8Bits fu ⟨(s : Int), C⟩ = some b ∧ (band m b == 0) = c := ⟨_, l8Bits_eq hb, hc⟩
      have hw : w64 ((s : Int) + 1) = ((s + 1 : Nat) : Int) := by rw [w64_in (by omega) (by omega)]; omega
      rw [List.range'_succ, List.filter_cons, hc, hb1]
      clear hb1 hc hb
      rw [if_pos (by simpa using h'), Option.bind_some, hb2, hw]
      clear hw hb2
      cases c
      · rw [if_neg (by decide), if_neg (by decide)]
        exact ih k (s + 1) out (by omega) (by omega) (by omega)
      · have ha : app out [(s : Int)] = some (out ++ [(s : Int)]) := app_ok (by simp; omega)
        rw [if_pos rfl, if_pos rfl, ha, Option.bind_some]
        obtain ⟨z, hz⟩ := ih k (s + 1) (out ++ [(s : Int)]) (by omega) (by omega) (by simp; omega)
        exact ⟨z, by rw [hz, List.map_cons, List.append_assoc, List.singleton_append]⟩
theorem l8Fits_eq {fu : Nat} (hfu : 2097153 ≤ fu) (m C : Int) (h1 : 1 ≤ C) (h2 : C ≤ 24) : spec_l8Fits fu m C = some (fits m C) := by
  unfold spec_l8Fits fits
  obtain ⟨N, hN⟩ : ∃ N, N = 25 - C.toNat := ⟨_, rfl⟩
  rw [← hN]
  obtain ⟨z, hz⟩ := fits_loop (fu := fu) m C N (by omega) h1 fu N 0 [] (by omega) (by omega) (by simp)
  rw [show ((0 : Nat) : Int) = 0 from rfl] at hz
  rw [hz]
  rfl
theorem fits_mem {m C : Int} {s : Int} (h1 : 1 ≤ C) (h2 : C ≤ 24) : s ∈ fits m C ↔ 0 ≤ s ∧ s + C ≤ 24 ∧ apart m (bits ⟨s, C⟩) = true := by
  unfold fits
  simp only [List.mem_map, List.mem_filter, List.mem_range'_1]
  constructor
  · rintro ⟨t, ⟨⟨-, ht⟩, ha⟩, rfl⟩
    exact ⟨by omega, by omega, ha⟩
  · rintro ⟨h0, h3, ha⟩
    refine ⟨s.toNat, ⟨⟨by omega, by omega⟩, ?_⟩, by omega⟩
    rw [Int.toNat_of_nonneg h0]
    exact ha
theorem fits_len (m C : Int) : (fits m C).length ≤ 25 := by
  unfold fits
  rw [List.length_map]
  refine Nat.le_trans (List.length_filter_le _ _) ?_
  rw [List.length_range']
  omega
structure PlanI (p : Plan) : Prop where
  ids : ∀ i j, i < j → j < p.Lights.length → (gd p.Lights i l0).Id < (gd p.Lights j l0).Id
end AT

namespace AT
def clash (l : List Request) (pre : List Block) (i : Nat) (b : Block) (k : Nat) : Bool := cf (gd l i r0) (gd l k r0) && !apart (bits b) (bits (gd pre k b0))
def free (l : List Request) (pre : List Block) (b : Block) : Bool := !(List.range pre.length).any (clash l pre pre.length b)
def firstOf {α : Type} (g : Nat → Option α) : Nat → Nat → Option α
  | 0, _ => none
  | c + 1, s => match g s with
    | some r => some r
    | none => firstOf g c (s + 1)
def cnt (l : List Request) (pre : List Block) : Int := (gd l pre.length r0).Count
def ext (l : List Request) (h : Int) : Nat → List Block → Option (List Block)
  | 0, pre => some pre
  | d + 1, pre => firstOf (fun s => if free l pre ⟨(s : Int), cnt l pre⟩ = true then ext l h d (pre ++ [⟨(s : Int), cnt l pre⟩]) else none) (h + 1 - cnt l pre).toNat 0
theorem any_lt {m n : Nat} (h : m ≤ n) (q : Nat → Bool) : (List.range n).any (fun k => decide (k < m) && q k) = (List.range m).any q := by
  rw [Bool.eq_iff_iff, List.any_eq_true, List.any_eq_true]
  constructor
  · rintro ⟨k, -, k2⟩
    simp only [Bool.and_eq_true, decide_eq_true_eq] at k2
    exact ⟨k, List.mem_range.2 k2.1, k2.2⟩
  · rintro ⟨k, k1, k2⟩
    have := List.mem_range.1 k1
    exact ⟨k, List.mem_range.2 (by omega), by simp [this, k2]⟩
theorem band_ne (a b : Int) : (band a b != 0) = !apart a b := rfl
theorem gd_ok {pre : List Block} (h : ∀ b ∈ pre, blkOk b = true) {k : Nat} (hk : k < pre.length) : blkOk (gd pre k b0) = true := by
  rw [gd_in b0 hk]; exact h _ (List.getElem_mem hk)
theorem isFree_eq {fu : Nat} (hfu : 2097153 ≤ fu) {l : List Request} (hl : ReqF l) {pre : List Block} (hp : ∀ b ∈ pre, blkOk b = true) (hi : pre.length < l.length) {b : Block} (hb : blkOk b = true) :
    impl_isFree_of_assignedTo_c1c1 fu l pre (pre.length : Int) b (pre.length : Int) = some (free l pre b) := by
  have h7 := hl.len
  unfold impl_isFree_of_assignedTo_c1c1 free
  have := scan_any (l := l) (G := impl_isFree_of_assignedTo_c1c1_L1 fu l pre (pre.length : Int) b (pre.length : Int)) (fun k => decide (k < pre.length) && clash l pre pre.length b k) false (by omega)
    (fun fk k hk _ => by
      by_cases hki : k < pre.length
      · have h1 : ((k : Int) != (pre.length : Int)) = true := by rw [bne_iff_ne]; omega
        have h2 : (k : Int) < (pre.length : Int) := by omega
        have hv : (decide (k < pre.length) && clash l pre pre.length b k) = (cf (gd l pre.length r0) (gd l k r0) && !apart (bits b) (bits (gd pre k b0))) := by
          rw [decide_eq_true hki, Bool.true_and, clash]
        rw [hv, impl_isFree_of_assignedTo_c1c1_L1, if_pos (by simpa using hk), impl_assignedTo_c1c1, h1, if_pos rfl, decide_eq_true h2, Option.bind_some, if_pos rfl, idx_gd r0 hi, Option.bind_some, idx_gd r0 hk, Option.bind_some, implCf_eq hfu hl hi hk, Option.bind_some, idx_gd b0 hki, Option.bind_some, maskOf_eq hb, Option.bind_some, maskOf_eq (gd_ok hp hki), Option.bind_some, band_ne]
        generalize cf (gd l pre.length r0) (gd l k r0) = q
        generalize apart (bits b) (bits (gd pre k b0)) = q2
        cases q
        · rw [if_neg Bool.false_ne_true, Option.bind_some, Bool.false_and]
        · rw [if_pos rfl, Option.bind_some, Bool.true_and]
      · have h2 : ¬ (k : Int) < (pre.length : Int) := by omega
        have hv : (decide (k < pre.length) && clash l pre pre.length b k) = false := by rw [decide_eq_false hki, Bool.false_and]
        rw [hv, impl_isFree_of_assignedTo_c1c1_L1, if_pos (by simpa using hk), impl_assignedTo_c1c1, decide_eq_false h2, Option.bind_some, if_neg Bool.false_ne_true]
        by_cases h1 : ((k : Int) != (pre.length : Int)) = true
        · rw [if_pos h1, Option.bind_some]
        · rw [if_neg h1, Option.bind_some])
    (fun fk => by rw [impl_isFree_of_assignedTo_c1c1_L1, if_neg (by simp)]) fu (by omega)
  rw [this, any_lt (Nat.le_of_lt hi)]
  cases (List.range pre.length).any (clash l pre pre.length b) <;> rfl
theorem sub_pre {α : Type} {l : List α} {n : Nat} (h : n ≤ l.length) : sub l 0 (n : Int) = some (l.take n) := sub_take h
theorem blk_of {l : List Request} (hl : ReqF l) {pre : List Block} (hi : pre.length < l.length) {h : Int} (hh : h ≤ 24) {s : Nat} (hs : (s : Int) + cnt l pre ≤ h) : blkOk ⟨(s : Int), cnt l pre⟩ = true := by
  have := hl.at_ hi
  unfold blkOk
  unfold cnt at hs ⊢
  simp only [Bool.and_eq_true, decide_eq_true_eq]
  omega
theorem snoc_ok {pre : List Block} (hp : ∀ b ∈ pre, blkOk b = true) {b : Block} (hb : blkOk b = true) : ∀ c ∈ pre ++ [b], blkOk c = true := by
  intro c hc
  rcases List.mem_append.1 hc with h | h
  · exact hp c h
  · rw [List.mem_singleton] at h; subst h; exact hb
theorem search_eq {l : List Request} (hl : ReqF l) (h : Int) (hh : h ≤ 24) : ∀ (d f : Nat) (pre : List Block), 2097153 + d < f → pre.length + d = l.length → (∀ b ∈ pre, blkOk b = true) →
    ∃ r, impl_assignedTo_c1 f pre l h = some r ∧ match ext l h d pre with | some full => r = (true, full) | none => r.1 = false ∧ r.2.take pre.length = pre := by
  have h7 := hl.len
  intro d
  induction d with
  | zero =>
    intro f pre hf hd hp
    obtain ⟨f, rfl⟩ : ∃ g, f = g + 1 := ⟨f - 1, by omega⟩
    rw [impl_assignedTo_c1, impl_assignedTo_c1_B, if_pos (by rw [beq_iff_eq]; omega), ext]
    exact ⟨_, rfl, rfl⟩
  | succ d ih =>
    intro f pre hf hd hp
    obtain ⟨f, rfl⟩ : ∃ g, f = g + 1 := ⟨f - 1, by omega⟩
    have hi : pre.length < l.length := by omega
    have hc := hl.at_ hi
    have e0 : cnt l pre = (gd l pre.length r0).Count := rfl
    rw [impl_assignedTo_c1, impl_assignedTo_c1_B, if_neg (by rw [beq_iff_eq]; omega), ext]
    have key : ∀ (fk c s : Nat), c < fk → c = (h + 1 - cnt l pre).toNat - s → s ≤ (h + 1 - cnt l pre).toNat →
        ∃ z, impl_assignedTo_c1_L1 f pre l h (fun cap cap2 cap3 => impl_assignedTo_c1 f cap cap2 cap3) fk (s : Int) pre = some (match firstOf (fun s => if free l pre ⟨(s : Int), cnt l pre⟩ = true then ext l h d (pre ++ [⟨(s : Int), cnt l pre⟩]) else none) c s with | some full => .ret (true, full) | none => .next (z, pre)) := by
      intro fk
      induction fk with
      | zero => intro c s hk; omega
      | succ fk ih2 =>
        intro c s hk hcs hs
        rw [impl_assignedTo_c1_L1, idx_gd r0 hi, Option.bind_some]
        have hw : w64 ((s : Int) + (gd l pre.length r0).Count) = (s : Int) + cnt l pre := w64_in (by unfold cnt at hs; omega) (by unfold cnt at hs; omega)
        rw [hw]
        clear hw
        cases c with
        | zero =>
          have hn : ¬ ((s : Int) + cnt l pre ≤ h) := by
            have : cnt l pre = (gd l pre.length r0).Count := rfl
            omega
          rw [if_neg (by simpa using hn)]
          exact ⟨_, rfl⟩
        | succ c =>
          have hn : (s : Int) + cnt l pre ≤ h := by
            have : cnt l pre = (gd l pre.length r0).Count := rfl
            omega
          have hb := blk_of hl hi hh hn
          rw [if_pos (by simpa using hn), Option.bind_some]
          have hfr := isFree_eq (fu := f) (by omega) hl hp hi hb
          have hw : w64 ((s : Int) + 1) = ((s + 1 : Nat) : Int) := by rw [w64_in (by omega) (by omega)]; rfl
          have e : (gd l pre.length r0).Count = cnt l pre := rfl
          rw [e, hfr, Option.bind_some, hw, firstOf]
          clear hw
          obtain ⟨z, hz⟩ := ih2 c (s + 1) (by omega) (by omega) (by omega)
          cases hfree : free l pre ⟨(s : Int), cnt l pre⟩
          · simp only [Bool.not_false, if_true, Bool.false_eq_true, if_false]
            exact ⟨z, hz⟩
          · simp only [Bool.not_true, Bool.false_eq_true, if_false, if_true]
            obtain ⟨r, r1, r2⟩ := ih f (pre ++ [⟨(s : Int), cnt l pre⟩]) (by omega) (by rw [List.length_append, List.length_singleton]; omega) (snoc_ok hp hb)
            rw [app_ok (by rw [List.length_singleton]; omega), Option.bind_some, r1, Option.bind_some]
            cases he : ext l h d (pre ++ [⟨(s : Int), cnt l pre⟩]) with
            | some full =>
              rw [he] at r2
              simp only at r2
              subst r2
              exact ⟨0, rfl⟩
            | none =>
              rw [he] at r2
              simp only at r2
              obtain ⟨r3, r4⟩ := r2
              have hlen := congrArg List.length r4
              rw [List.length_take, List.length_append, List.length_singleton] at hlen
              have ht : r.2.take pre.length = pre := by
                have := congrArg (List.take pre.length) r4
                rw [List.take_take, List.length_append, List.length_singleton, Nat.min_eq_left (by omega)] at this
                simpa using this
              rw [r3, if_neg Bool.false_ne_true, sub_pre (by omega), Option.bind_some, ht]
              exact ⟨z, hz⟩
    obtain ⟨z, hz⟩ := key f (h + 1 - cnt l pre).toNat 0 (by unfold cnt; omega) (by omega) (by omega)
    rw [show ((0 : Nat) : Int) = 0 from rfl] at hz
    rw [hz]
    cases firstOf (fun s => if free l pre ⟨(s : Int), cnt l pre⟩ = true then ext l h d (pre ++ [⟨(s : Int), cnt l pre⟩]) else none) (h + 1 - cnt l pre).toNat 0 with
    | some full => exact ⟨_, rfl, rfl⟩
    | none => exact ⟨_, rfl, rfl, List.take_length⟩
def takenP (l : List Request) (bl : List Block) (i : Nat) (c : Int) (k : Nat) : Bool := (k != i && (decide ((gd bl k b0).Count > 0) && cf (gd l k r0) (gd l i r0))) && !apart (bits (gd bl k b0)) c
theorem taken_loop {fu : Nat} (hfu : 2097153 ≤ fu) {l : List Request} (hl : ReqF l) {bl : List Block} (hbl : bl.length = l.length) (hp : ∀ b ∈ bl, blkOk b = true ∨ b = b0) {i : Nat} (hi : i < l.length) : ∀ (fk k : Nat) (o : Int), k ≤ l.length → l.length - k < fk → MK o → (∀ c, MK c → apart o c = !(List.range k).any (takenP l bl i c)) →
    ∃ m, spec_l12Taken_L1 fu l bl i fk o k = some (m, (l.length : Int)) ∧ MK m ∧ ∀ c, MK c → apart m c = !(List.range l.length).any (takenP l bl i c) := by
  have h7 := hl.len
  intro fk
  induction fk with
  | zero => intro k _ _ h; omega
  | succ fk ih =>
    intro k o hk hfk ho hoc
    rw [spec_l12Taken_L1]
    by_cases hkl : k < l.length
    · have hkb : k < bl.length := by omega
      have hbk := hp _ (List.getElem_mem hkb)
      rw [← gd_in b0 hkb] at hbk
      have hr : ∀ c, (List.range (k + 1)).any (takenP l bl i c) = ((List.range k).any (takenP l bl i c) || takenP l bl i c k) := by
        intro c
        rw [List.range_succ, List.any_append]; simp
      have hki : ((k : Int) != (i : Int)) = (k != i) := by
        rw [Bool.eq_iff_iff, bne_iff_ne, bne_iff_ne]; omega
      have hcond : (if ((k : Int) != (i : Int)) = true then (idx bl (k : Int)).bind fun e => if decide (e.Count > 0) = true then (idx l (k : Int)).bind fun e2 => (idx l (i : Int)).bind fun e3 => (spec_l12Conflict fu e2 e3).bind fun y => some y else some false else some false) = some (k != i && (decide ((gd bl k b0).Count > 0) && cf (gd l k r0) (gd l i r0))) := by
        rw [hki, idx_gd b0 hkb, Option.bind_some, idx_gd r0 hkl, Option.bind_some, idx_gd r0 hi, Option.bind_some, specCf_eq hfu hl hkl hi, Option.bind_some]
        cases (k != i) <;> cases decide ((gd bl k b0).Count > 0) <;> simp
      rw [if_pos (by simpa using hkl), hcond, Option.bind_some, w64_inc hkl (by omega)]
      cases hq : (k != i && (decide ((gd bl k b0).Count > 0) && cf (gd l k r0) (gd l i r0)))
      · simp only [Bool.false_eq_true, if_false]
        refine ih (k + 1) o hkl (by omega) ho fun c hc => ?_
        rw [hr, hoc c hc]
        have : takenP l bl i c k = false := by unfold takenP; rw [hq, Bool.false_and]
        rw [this, Bool.or_false]
      · have hblk : blkOk (gd bl k b0) = true := by
          rcases hbk with h | h
          · exact h
          · rw [h] at hq; simp [b0] at hq
        simp only [if_true, idx_gd b0 hkb, Option.bind_some, l8Bits_eq hblk]
        refine ih (k + 1) _ hkl (by omega) (bor_mk ho (bits_mk hblk)) fun c hc => ?_
        rw [apart_bor ho (bits_mk hblk) hc, hoc c hc, hr]
        have : takenP l bl i c k = !apart (bits (gd bl k b0)) c := by unfold takenP; rw [hq, Bool.true_and]
        rw [this]
        cases (List.range k).any (takenP l bl i c) <;> simp
    · obtain rfl : k = l.length := by omega
      rw [if_neg (by simp)]
      exact ⟨o, rfl, ho, hoc⟩
theorem taken_ok {fu : Nat} (hfu : 2097153 ≤ fu) {l : List Request} (hl : ReqF l) {bl : List Block} (hbl : bl.length = l.length) (hp : ∀ b ∈ bl, blkOk b = true ∨ b = b0) {i : Nat} (hi : i < l.length) :
    ∃ m, spec_l12Taken fu l bl i = some m ∧ MK m ∧ ∀ c, MK c → apart m c = !(List.range l.length).any (takenP l bl i c) := by
  have h7 := hl.len
  obtain ⟨m, m1, m2, m3⟩ := taken_loop hfu hl hbl hp hi fu 0 0 (by omega) (by omega) mk0 (fun c hc => by rw [apart_zero hc]; rfl)
  unfold spec_l12Taken
  rw [show ((0 : Nat) : Int) = 0 from rfl] at m1
  rw [m1]
  exact ⟨m, rfl, m2, m3⟩
def zeros (d : Nat) : List Block := List.replicate d b0
theorem gd_left {α : Type} {a b : List α} {k : Nat} (x : α) (h : k < a.length) : gd (a ++ b) k x = gd a k x := by
  unfold gd; rw [List.getElem?_append_left h]
theorem apart_comm (a b : Int) : apart a b = apart b a := by
  unfold apart band
  rw [BitVec.and_comm]
theorem taken_free {fu : Nat} (hfu : 2097153 ≤ fu) {l : List Request} (hl : ReqF l) {pre : List Block} (hp : ∀ b ∈ pre, blkOk b = true) (x : Block) {d : Nat} (hd : pre.length + (d + 1) = l.length) (hx : x = b0) :
    ∃ m, spec_l12Taken fu l (pre ++ x :: zeros d) pre.length = some m ∧ MK m ∧ ∀ b, blkOk b = true → apart m (bits b) = free l pre b := by
  subst hx
  have hi : pre.length < l.length := by omega
  obtain ⟨m, m1, m2, m3⟩ := taken_ok hfu hl (bl := pre ++ b0 :: zeros d) (by simp [zeros]; omega) (fun b hb => by
    rcases List.mem_append.1 hb with h | h
    · exact .inl (hp b h)
    · rcases List.mem_cons.1 h with h | h
      · exact .inr h
      · exact .inr (List.eq_of_mem_replicate h)) hi
  refine ⟨m, m1, m2, fun b hb => ?_⟩
  rw [m3 _ (bits_mk hb)]
  unfold free
  congr 1
  rw [← any_lt (Nat.le_of_lt hi)]
  refine any_same fun k hk => ?_
  unfold takenP clash
  by_cases hkp : k < pre.length
  · have h1 : (k != pre.length) = true := by rw [bne_iff_ne]; omega
    have h2 := gd_ok hp hkp
    have h3 : (gd pre k b0).Count > 0 := by
      unfold blkOk at h2; simp only [Bool.and_eq_true, decide_eq_true_eq] at h2; omega
    rw [gd_left b0 hkp, h1, decide_eq_true h3, decide_eq_true hkp, cf_comm, apart_comm]
    simp
  · rw [decide_eq_false hkp]
    have : gd (pre ++ b0 :: zeros d) k b0 = b0 := by
      unfold gd
      rw [List.getElem?_append_right (by omega)]
      cases hq : k - pre.length with
      | zero => rfl
      | succ q =>
        rw [List.getElem?_cons_succ]
        unfold zeros
        rw [List.getElem?_replicate]
        split <;> rfl
    rw [this]
    simp [b0]
def firstIn {α : Type} (g : Int → Option α) (h C : Int) : List Int → Option α
  | [] => none
  | x :: xs => if x + C ≤ h then (match g x with | some r => some r | none => firstIn g h C xs) else none
theorem firstOf_same {α : Type} {g g' : Nat → Option α} : ∀ (c s : Nat), (∀ t, s ≤ t → t < s + c → g t = g' t) → firstOf g c s = firstOf g' c s
  | 0, s, _ => by rw [firstOf, firstOf]
  | c + 1, s, h => by rw [firstOf, firstOf, h s (Nat.le_refl _) (by omega), firstOf_same c (s + 1) fun t h1 h2 => h t (by omega) (by omega)]
theorem firstIn_fits {α : Type} (g : Int → Option α) (p : Nat → Bool) (h C : Int) (hh : h ≤ 24) (h1 : 1 ≤ C) (h2 : C ≤ 24) : ∀ (c s : Nat), c + s = 25 - C.toNat →
    firstIn g h C (((List.range' s c).filter p).map fun t : Nat => (t : Int)) = firstOf (fun s => if p s = true then g (s : Int) else none) ((h + 1 - C).toNat - s) s := by
  intro c
  induction c with
  | zero =>
    intro s hs
    rw [show (h + 1 - C).toNat - s = 0 by omega]
    rfl
  | succ c ih =>
    intro s hs
    rw [List.range'_succ, List.filter_cons]
    by_cases hsh : (s : Int) + C ≤ h
    · obtain ⟨q, hq⟩ : ∃ q, (h + 1 - C).toNat - s = q + 1 := ⟨(h + 1 - C).toNat - s - 1, by omega⟩
      rw [hq, firstOf]
      have hn := ih (s + 1) (by omega)
      rw [show (h + 1 - C).toNat - (s + 1) = q by omega] at hn
      cases hp : p s
      · simp only [Bool.false_eq_true, if_false]
        exact hn
      · simp only [if_true, List.map_cons, firstIn, hsh]
        rw [hn]
    · rw [show (h + 1 - C).toNat - s = 0 by omega, firstOf]
      have hall : ∀ x ∈ (((if p s = true then s :: (List.range' (s + 1) c).filter p else (List.range' (s + 1) c).filter p)).map fun t : Nat => (t : Int)), ¬ x + C ≤ h := by
        intro x hx
        obtain ⟨t, t1, rfl⟩ := List.mem_map.1 hx
        have : s ≤ t := by
          split at t1
          · rcases List.mem_cons.1 t1 with rfl | t1
            · exact Nat.le_refl _
            · have := (List.mem_range'_1.1 (List.mem_filter.1 t1).1).1; omega
          · have := (List.mem_range'_1.1 (List.mem_filter.1 t1).1).1; omega
        omega
      revert hall
      generalize ((if p s = true then s :: (List.range' (s + 1) c).filter p else (List.range' (s + 1) c).filter p).map fun t : Nat => (t : Int)) = L
      intro hall
      cases L with
      | nil => rfl
      | cons x xs => rw [firstIn, if_neg (hall x (by simp))]
theorem set_mid {pre : List Block} {x b : Block} {r : List Block} : (pre ++ x :: r).set pre.length b = pre ++ b :: r := by
  rw [List.set_append_right _ _ (Nat.le_refl _), Nat.sub_self]; rfl
theorem extend_eq {l : List Request} (hl : ReqF l) (h : Int) (hh : h ≤ 24) : ∀ (d f : Nat) (pre : List Block), 2097153 + d < f → pre.length + d = l.length → (∀ b ∈ pre, blkOk b = true) →
    spec_l12Extend f l (pre ++ zeros d) pre.length h = some (match ext l h d pre with | some full => (true, full) | none => (false, pre ++ zeros d)) := by
  have h7 := hl.len
  intro d
  induction d with
  | zero =>
    intro f pre hf hd hp
    obtain ⟨f, rfl⟩ : ∃ g, f = g + 1 := ⟨f - 1, by omega⟩
    rw [spec_l12Extend, spec_l12Extend_B, if_pos (by rw [beq_iff_eq]; omega), ext]
    simp [zeros]
  | succ d ih =>
    intro f pre hf hd hp
    obtain ⟨f, rfl⟩ : ∃ g, f = g + 1 := ⟨f - 1, by omega⟩
    have hi : pre.length < l.length := by omega
    have hc := hl.at_ hi
    have hz : zeros (d + 1) = b0 :: zeros d := rfl
    obtain ⟨m, m1, m2, m3⟩ := taken_free (fu := f) (by omega) hl hp b0 hd rfl
    have e : (gd l pre.length r0).Count = cnt l pre := rfl
    rw [spec_l12Extend, spec_l12Extend_B, if_neg (by rw [beq_iff_eq]; omega), idx_gd r0 hi, Option.bind_some, hz, m1, Option.bind_some, e, l8Fits_eq (by omega) m (cnt l pre) (by rw [← e]; omega) (by rw [← e]; omega), Option.bind_some]
    have hfl := fits_len m (cnt l pre)
    obtain ⟨F, hF⟩ : ∃ F, F = fits m (cnt l pre) := ⟨_, rfl⟩
    rw [← hF] at hfl ⊢
    have hFm : ∀ x ∈ F, 0 ≤ x ∧ x + cnt l pre ≤ 24 ∧ apart m (bits ⟨x, cnt l pre⟩) = true := by
      intro x hx
      rw [hF] at hx
      exact (fits_mem (by rw [← e]; omega) (by rw [← e]; omega)).1 hx
    have key : ∀ (fk k : Nat) (x : Block), F.length - k < fk → k ≤ F.length →
        ∃ z x', spec_l12Extend_L1 f l pre.length h (fun list blocks i height => spec_l12Extend f list blocks i height) F fk (pre ++ x :: zeros d) k = some (match firstIn (fun s => ext l h d (pre ++ [⟨s, cnt l pre⟩])) h (cnt l pre) (F.drop k) with | some full => .ret (true, full) | none => .next (pre ++ x' :: zeros d, z)) := by
      intro fk
      induction fk with
      | zero => intro k x hk; omega
      | succ fk ih2 =>
        intro k x hk hkl
        rw [spec_l12Extend_L1]
        by_cases hkF : k < F.length
        · have hm := hFm _ (List.getElem_mem hkF)
          have hw : w64 (F[k] + cnt l pre) = F[k] + cnt l pre := w64_in (by omega) (by omega)
          rw [← List.getElem_cons_drop hkF, firstIn, if_pos (show decide ((k : Int) < (F.length : Int)) = true by simpa using hkF), idx_in hkF, Option.bind_some, idx_gd r0 hi, Option.bind_some, e, hw, Option.bind_some]
          clear hw
          by_cases hle : F[k] + cnt l pre ≤ h
          · have hb : blkOk ⟨F[k], cnt l pre⟩ = true := by
              unfold blkOk
              simp only [Bool.and_eq_true, decide_eq_true_eq]
              omega
            have hix : idx (pre ++ x :: zeros d) (pre.length : Int) = some x := by
              rw [idx_nat, List.getElem?_append_right (Nat.le_refl _), Nat.sub_self]; rfl
            have hrec := ih f (pre ++ [⟨F[k], cnt l pre⟩]) (by omega) (by rw [List.length_append, List.length_singleton]; omega) (snoc_ok hp hb)
            rw [List.append_assoc, List.length_append, List.length_singleton] at hrec
            have hw : w64 ((pre.length : Int) + 1) = ((pre.length + 1 : Nat) : Int) := by rw [w64_in (by omega) (by omega)]; rfl
            rw [if_pos hle, decide_eq_true hle, if_pos rfl, Option.bind_some, Option.bind_some, hix, Option.bind_some, Int.toNat_natCast, e, set_mid, hw]
            clear hw
            rw [show pre ++ ⟨F[k], cnt l pre⟩ :: zeros d = pre ++ ([⟨F[k], cnt l pre⟩] ++ zeros d) from rfl, hrec, Option.bind_some, w64_inc hkF (by omega)]
            obtain ⟨z, x', hz2⟩ := ih2 (k + 1) ⟨F[k], cnt l pre⟩ (by omega) hkF
            cases he : ext l h d (pre ++ [⟨F[k], cnt l pre⟩]) with
            | some full => exact ⟨0, x, rfl⟩
            | none =>
              simp only [Bool.false_eq_true, if_false]
              exact ⟨z, x', hz2⟩
          · rw [if_neg hle, decide_eq_false hle, if_neg Bool.false_ne_true]
            exact ⟨_, x, rfl⟩
        · obtain rfl : k = F.length := by omega
          rw [if_neg (show ¬ decide ((F.length : Int) < (F.length : Int)) = true by simp), Option.bind_some, if_neg Bool.false_ne_true, List.drop_length, firstIn]
          exact ⟨_, x, rfl⟩
    obtain ⟨z, x', hz2⟩ := key f 0 b0 (by omega) (by omega)
    rw [show ((0 : Nat) : Int) = 0 from rfl] at hz2
    rw [hz2, List.drop_zero]
    have hfi := firstIn_fits (fun s => ext l h d (pre ++ [⟨s, cnt l pre⟩])) (fun t => apart m (bits ⟨(t : Int), cnt l pre⟩)) h (cnt l pre) hh (by rw [← e]; omega) (by rw [← e]; omega) (25 - (cnt l pre).toNat) 0 (by omega)
    have hfF : F = ((List.range' 0 (25 - (cnt l pre).toNat)).filter fun t : Nat => apart m (bits ⟨(t : Int), cnt l pre⟩)).map fun t : Nat => (t : Int) := hF
    rw [← hfF, Nat.sub_zero] at hfi
    have hsame : firstOf (fun s => if apart m (bits ⟨(s : Int), cnt l pre⟩) = true then ext l h d (pre ++ [⟨(s : Int), cnt l pre⟩]) else none) (h + 1 - cnt l pre).toNat 0 = firstOf (fun s => if free l pre ⟨(s : Int), cnt l pre⟩ = true then ext l h d (pre ++ [⟨(s : Int), cnt l pre⟩]) else none) (h + 1 - cnt l pre).toNat 0 := by
      refine firstOf_same _ _ fun t _ ht => ?_
      have e' : cnt l pre = (gd l pre.length r0).Count := rfl
      have hm := m3 _ (blk_of hl hi hh (show (t : Int) + cnt l pre ≤ h by omega))
      show (if apart m (bits ⟨(t : Int), cnt l pre⟩) = true then _ else _) = _
      rw [hm]
    rw [hsame] at hfi
    rw [hfi, ext]
    have hix : ∀ y : Block, idx (pre ++ y :: zeros d) (pre.length : Int) = some y := by
      intro y
      rw [idx_nat, List.getElem?_append_right (Nat.le_refl _), Nat.sub_self]; rfl
    cases firstOf (fun s => if free l pre ⟨(s : Int), cnt l pre⟩ = true then ext l h d (pre ++ [⟨(s : Int), cnt l pre⟩]) else none) (h + 1 - cnt l pre).toNat 0 with
    | some full => rfl
    | none =>
      simp only [Option.bind_some, Out.on]
      rw [hix, Option.bind_some, Int.toNat_natCast, set_mid]
      rfl
def exF (l : List Request) : Nat → Int → Option (List Block × Int)
  | 0, _ => none
  | c + 1, h => match ext l h l.length [] with
    | some full => some (full, h)
    | none => exF l c (h + 1)
def bnd (l : List Request) : Int := (bndF l (2 ^ l.length)).1
def ex (l : List Request) : Option (List Block × Int) := exF l (25 - bnd l).toNat (bnd l)
theorem assign_loop {fu : Nat} (hfu : 2097200 ≤ fu) {l : List Request} (hl : ReqF l) : ∀ (fk c : Nat) (h : Int), c < fk → c = (25 - h).toNat → 0 ≤ h → h ≤ 1000 →
    ∃ z, impl_AssignExact_L1 fu l fk h = some (match exF l c h with | some (full, h) => .ret (full, h, true) | none => .next z) := by
  have h7 := hl.len
  intro fk
  induction fk with
  | zero => intro c h hk; omega
  | succ fk ih =>
    intro c h hk hc h0 h1
    rw [impl_AssignExact_L1]
    cases c with
    | zero =>
      rw [if_neg (by simp; omega)]
      exact ⟨_, rfl⟩
    | succ c =>
      obtain ⟨r, r1, r2⟩ := search_eq hl h (by omega) l.length fu [] (by omega) (by simp) (by simp)
      rw [if_pos (by simp; omega), impl_assignedTo, r1, Option.bind_some, Option.bind_some, exF]
      have hw : w64 (h + 1) = h + 1 := w64_in (by omega) (by omega)
      rw [hw]
      clear hw
      obtain ⟨z, hz⟩ := ih c (h + 1) (by omega) (by omega) (by omega) (by omega)
      cases he : ext l h l.length [] with
      | some full =>
        rw [he] at r2
        simp only at r2
        subst r2
        exact ⟨0, rfl⟩
      | none =>
        rw [he] at r2
        simp only at r2
        rw [r2.1, if_neg Bool.false_ne_true]
        exact ⟨z, hz⟩
theorem exact_loop {fu : Nat} (hfu : 2097200 ≤ fu) {l : List Request} (hl : ReqF l) : ∀ (fk c : Nat) (h : Int), c < fk → c = (25 - h).toNat → 0 ≤ h → h ≤ 1000 →
    ∃ z, spec_l12Exact_L1 fu l fk h = some (match exF l c h with | some (full, h) => .ret (full, h, true) | none => .next z) := by
  have h7 := hl.len
  intro fk
  induction fk with
  | zero => intro c h hk; omega
  | succ fk ih =>
    intro c h hk hc h0 h1
    rw [spec_l12Exact_L1]
    cases c with
    | zero =>
      rw [if_neg (by simp; omega)]
      exact ⟨_, rfl⟩
    | succ c =>
      have r1 := extend_eq hl h (by omega) l.length fu [] (by omega) (by simp) (by simp)
      rw [List.length_nil, show ((0 : Nat) : Int) = 0 from rfl, List.nil_append] at r1
      have hmk : mk (({ First := 0, Count := 0 } : Block) : Block) (l.length : Int) = some (zeros l.length) := mk_len (by omega)
      rw [if_pos (by simp; omega), hmk, Option.bind_some, r1, Option.bind_some, exF]
      have hw : w64 (h + 1) = h + 1 := w64_in (by omega) (by omega)
      rw [hw]
      clear hw
      obtain ⟨z, hz⟩ := ih c (h + 1) (by omega) (by omega) (by omega) (by omega)
      cases he : ext l h l.length [] with
      | some full => exact ⟨0, rfl⟩
      | none =>
        simp only [Bool.false_eq_true, if_false]
        exact ⟨z, hz⟩
def exR (l : List Request) : List Block × Int × Bool := match ex l with | some (full, h) => (full, h, true) | none => ([], 0, false)
theorem bnd_in {l : List Request} (hl : ReqF l) : 0 ≤ bnd l ∧ bnd l ≤ 168 := ⟨(bndF_in hl _).1, (bndF_in hl _).2.1⟩
theorem assignExact_eq {fu : Nat} (hfu : 2097200 ≤ fu) (n : Network) (l : List Request) (hB : NetB n) (hl : ReqB l) : impl_AssignExact fu n l = some (if reqsOk n l = true then exR l else ([], 0, false)) := by
  unfold impl_AssignExact
  rw [implReqs_eq (by omega) n l hB hl]
  cases hv : reqsOk n l
  · rfl
  have hF := reqF hv
  have hb := bnd_in hF
  obtain ⟨z, hz⟩ := assign_loop hfu hF fu (25 - bnd l).toNat (bnd l) (by omega) rfl hb.1 (by omega)
  simp only [Option.bind_some, Bool.not_true, Bool.false_eq_true, if_false, if_true]
  rw [implBound_eq (by omega) hF, Option.bind_some]
  show (impl_AssignExact_L1 fu l fu (bnd l)).bind _ = _
  rw [hz]
  unfold exR ex
  cases exF l (25 - bnd l).toNat (bnd l) <;> rfl
theorem l12Exact_eq {fu : Nat} (hfu : 2097200 ≤ fu) {l : List Request} (hF : ReqF l) : spec_l12Exact fu l = some (exR l) := by
  have hb := bnd_in hF
  obtain ⟨z, hz⟩ := exact_loop hfu hF fu (25 - bnd l).toNat (bnd l) (by omega) rfl hb.1 (by omega)
  unfold spec_l12Exact
  rw [specBound_eq (by omega) hF, Option.bind_some]
  show (spec_l12Exact_L1 fu l fu (bnd l)).bind _ = _
  rw [hz]
  unfold exR ex
  cases exF l (25 - bnd l).toNat (bnd l) <;> rfl
end AT
