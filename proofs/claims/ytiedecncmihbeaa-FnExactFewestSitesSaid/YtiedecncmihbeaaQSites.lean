/- Networks, plainly: names, fibers, validity. -/
import Derived.Test.YtiedecncmihbeaaP1
import Derived.Test.YtiedecncmihbeaaAtL
set_option linter.unusedSimpArgs false
set_option linter.unusedVariables false
namespace AT
def chr (s : ByteArray) (i : Nat) : Int := ((s[i]?).map fun b => (b.toNat : Int)).getD 0
theorem sidx_chr {s : ByteArray} {i : Nat} (h : i < s.size) : sidx s (i : Int) = some ⟨chr s i⟩ := by
  have e : s[i]? = some (s[i]'h) := by simp [h]
  unfold sidx chr
  rw [if_pos (by omega), Int.toNat_natCast, e]
  rfl
def isLet (c : Int) : Bool := decide (97 ≤ c) && decide (c ≤ 122)
def isDig (c : Int) : Bool := decide (48 ≤ c) && decide (c ≤ 57)
def sgnBad (s : ByteArray) (i : Nat) : Bool := !(isLet (chr s i) || isDig (chr s i))
def chrBad (s : ByteArray) (i : Nat) : Bool := !isLet (chr s i) && (!isDig (chr s i) || i == 0)
def nameOk (s : ByteArray) : Bool := !((List.range s.size).any (chrBad s)) && (decide (1 ≤ s.size) && decide (s.size ≤ 8))
theorem isName_eq {fu : Nat} (s : ByteArray) (h : s.size < fu) (hn : s.size ≤ 2097152) : impl_isName fu s = some (nameOk s) := by
  unfold impl_isName
  rw [scan_all (l := List.range s.size) (G := impl_isName_L1 fu s) (chrBad s) (fun i => false) (by simp; omega)
    (fun fk i hi => by
      have hi' : i < s.size := by simpa using hi
      rw [impl_isName_L1, if_pos (by simpa using hi'), sidx_chr hi', List.getElem_range]
      simp only [Option.bind_some, chrBad, isLet, isDig, ge_iff_le]
      have e0 : ((i : Int) == 0) = (i == 0) := by rw [Bool.eq_iff_iff]; simp only [beq_iff_eq]; omega
      rw [e0]
      obtain ⟨b, hb⟩ : ∃ b, b = (i == 0) := ⟨_, rfl⟩
      simp only [← hb]
      by_cases h1 : 97 ≤ chr s i <;> by_cases h2 : 48 ≤ chr s i <;> by_cases h3 : chr s i ≤ 122 <;> by_cases h4 : chr s i ≤ 57 <;> cases b <;> simp [h1, h2, h3, h4])
    (fun fk => by rw [List.length_range, impl_isName_L1, if_neg (by simp)]) fu (by simpa using h)]
  unfold nameOk
  have e1 : decide (1 ≤ (s.size : Int)) = decide (1 ≤ s.size) := by simp only [decide_eq_decide]; omega
  have e2 : decide ((s.size : Int) ≤ 8) = decide (s.size ≤ 8) := by simp only [decide_eq_decide]; omega
  cases (List.range s.size).any (chrBad s) <;> simp [Out.on, e1, e2]
theorem l2Sign_eq (fu : Nat) (b : By) : spec_l2Sign fu b = some (isLet b.n || isDig b.n) := by
  unfold spec_l2Sign isLet isDig
  simp only [ge_iff_le]
  by_cases h1 : 97 ≤ b.n <;> by_cases h2 : 48 ≤ b.n <;> by_cases h3 : b.n ≤ 122 <;> by_cases h4 : b.n ≤ 57 <;> simp [h1, h2, h3, h4]
theorem l2Name_eq {fu : Nat} (s : ByteArray) (h : s.size < fu) (hn : s.size ≤ 2097152) : spec_l2Name fu s = some (nameOk s) := by
  unfold spec_l2Name
  have e1 : decide (1 ≤ (s.size : Int)) = decide (1 ≤ s.size) := by simp only [decide_eq_decide]; omega
  have e2 : decide ((s.size : Int) ≤ 8) = decide (s.size ≤ 8) := by simp only [decide_eq_decide]; omega
  simp only [l1In_eq, Option.bind_some, e1, e2]
  unfold nameOk
  by_cases hb : (decide (1 ≤ s.size) && decide (s.size ≤ 8)) = true
  · rw [hb]
    simp only [Bool.and_eq_true, decide_eq_true_eq] at hb
    have h0 : 0 < s.size := by omega
    have hs := sidx_chr h0
    simp only [Int.ofNat_zero, Int.natCast_zero] at hs
    simp only [Bool.not_true, Bool.false_eq_true, if_false, hs, Option.bind_some, Bool.and_true]
    have hl : spec_l2Name_L1 fu s fu 0 = some (if (List.range s.size).any (sgnBad s) then .ret false else .next ((List.range s.size).length : Int)) :=
      scan_all (l := List.range s.size) (G := spec_l2Name_L1 fu s) (sgnBad s) (fun i => false) (by simp; omega)
        (fun fk i hi => by
          have hi' : i < s.size := by simpa using hi
          rw [spec_l2Name_L1, if_pos (by simpa using hi'), sidx_chr hi', List.getElem_range]
          simp only [Option.bind_some, l2Sign_eq, sgnBad]
          rfl)
        (fun fk => by rw [List.length_range, spec_l2Name_L1, if_neg (by simp)]) fu (by simpa using h)
    rw [hl]
    have ha : (List.range s.size).any (chrBad s) = (!isLet (chr s 0) || (List.range s.size).any (sgnBad s)) := by
      rw [Bool.eq_iff_iff]
      simp only [List.any_eq_true, List.mem_range, Bool.or_eq_true, chrBad, sgnBad, Bool.and_eq_true, Bool.not_eq_true', beq_iff_eq, Bool.or_eq_false_iff]
      constructor
      · rintro ⟨i, hi, h1, h2⟩
        rcases h2 with h2 | h2
        · exact .inr ⟨i, hi, h1, h2⟩
        · subst h2; exact .inl h1
      · rintro (h1 | ⟨i, hi, h1, h2⟩)
        · exact ⟨0, h0, h1, .inr rfl⟩
        · exact ⟨i, hi, h1, .inl h2⟩
    rw [ha]
    unfold isLet
    have e3 : decide (chr s 0 < 97) = !decide (97 ≤ chr s 0) := by rw [← decide_not]; simp only [decide_eq_decide]; omega
    have e4 : decide (chr s 0 > 122) = !decide (chr s 0 ≤ 122) := by rw [← decide_not]; simp only [decide_eq_decide]; omega
    simp only [e3, e4]
    cases decide (97 ≤ chr s 0) <;> cases decide (chr s 0 ≤ 122) <;> cases (List.range s.size).any (sgnBad s) <;> rfl
  · rw [Bool.not_eq_true] at hb
    rw [hb]
    simp
def nm0 : ByteArray := ByteArray.empty
def seen (l : List ByteArray) (i : Nat) : Bool := (l.take i).any fun x => (gd l i nm0).toList == x.toList
theorem beq_symm' {α : Type} [BEq α] [LawfulBEq α] (a b : α) : (a == b) = (b == a) := by
  rw [Bool.eq_iff_iff]; simp only [beq_iff_eq]; exact eq_comm
theorem indexS_eq {fu : Nat} (l : List ByteArray) (v : ByteArray) (h : l.length < fu) (hn : l.length ≤ 2097152) : slices_Index_string_string fu l v = some (if l.any (fun x => v.toList == x.toList) then ((l.findIdx fun x => v.toList == x.toList : Nat) : Int) else -1) := by
  unfold slices_Index_string_string
  rw [scan_all (l := l) (G := slices_Index_string_string_L1 fu l v) (fun x => v.toList == x.toList) (fun i => (i : Int)) (by omega)
    (fun fk i hi => by rw [slices_Index_string_string_L1, if_pos (by simpa using hi), idx_in hi]; rfl)
    (fun fk => by rw [slices_Index_string_string_L1, if_neg (by simp)]) fu h]
  cases l.any (fun x => v.toList == x.toList) <;> rfl
theorem containsS_eq {fu : Nat} (l : List ByteArray) (v : ByteArray) (h : l.length < fu) (hn : l.length ≤ 2097152) : slices_Contains_string_string fu l v = some (l.any fun x => v.toList == x.toList) := by
  unfold slices_Contains_string_string
  rw [indexS_eq l v h hn]
  cases l.any (fun x => v.toList == x.toList)
  · rfl
  · simp
theorem l2Find_eq {fu : Nat} (l : List ByteArray) (v : ByteArray) (h : l.length < fu) (hn : l.length ≤ 2097152) : spec_l2Find fu l v = some (if l.any (fun x => x.toList == v.toList) then ((l.findIdx fun x => x.toList == v.toList : Nat) : Int) else -1) := by
  unfold spec_l2Find
  rw [scan_all (l := l) (G := spec_l2Find_L1 fu l v) (fun x => x.toList == v.toList) (fun i => (i : Int)) (by omega)
    (fun fk i hi => by rw [spec_l2Find_L1, if_pos (by simpa using hi), idx_in hi]; rfl)
    (fun fk => by rw [spec_l2Find_L1, if_neg (by simp)]) fu h]
  cases l.any (fun x => x.toList == v.toList) <;> rfl
theorem sub_take {α : Type} {l : List α} {i : Nat} (h : i ≤ l.length) : sub l 0 (i : Int) = some (l.take i) := by
  unfold sub
  rw [if_pos (by omega)]
  simp
theorem findIdx_self {α : Type} {l : List α} {p : α → Bool} {i : Nat} (h : i < l.length) (hp : p l[i] = true) : (l.findIdx p = i) ↔ (l.take i).any p = false := by
  rw [List.findIdx_eq h]
  constructor
  · rintro ⟨-, h2⟩
    rw [Bool.eq_false_iff]
    intro h3
    obtain ⟨x, hx, hpx⟩ := List.any_eq_true.1 h3
    obtain ⟨j, hj, rfl⟩ := List.mem_iff_getElem.1 hx
    simp only [List.length_take] at hj
    rw [List.getElem_take] at hpx
    have := h2 j (by omega)
    rw [hpx] at this
    cases this
  · intro h3
    refine ⟨hp, fun j hj => ?_⟩
    rw [Bool.eq_false_iff]
    intro h4
    rw [Bool.eq_false_iff] at h3
    refine h3 (List.any_eq_true.2 ⟨l[j], ?_, h4⟩)
    refine List.mem_iff_getElem.2 ⟨j, by simp; omega, by rw [List.getElem_take]⟩
def nodeBad (l : List ByteArray) (i : Nat) : Bool := !nameOk (gd l i nm0) || seen l i
def f0 : Fiber := ⟨0, 0, 0, 0⟩
def fibOk (m : Nat) (f : Fiber) : Bool := decide (0 ≤ f.A) && (decide (f.A < f.B) && (decide (f.B < (m : Int)) && ((decide (1 ≤ f.Length) && decide (f.Length ≤ 5000)) && (decide (0 ≤ f.Risk) && decide (f.Risk ≤ 9)))))
def fGt (f g : Fiber) : Bool := decide (g.A < f.A) || (f.A == g.A && (decide (g.B < f.B) || (f.B == g.B && (decide (g.Length < f.Length) || (f.Length == g.Length && decide (g.Risk < f.Risk))))))
def cmpI (x y : Int) : Int := if x < y then -1 else if x > y then 1 else 0
theorem compare_eq (fu : Nat) (x y : Int) : cmp_Compare_int fu x y = some (cmpI x y) := by
  unfold cmp_Compare_int cmp_isNaN_int cmpI
  have e : ∀ z : Int, (z != z) = false := fun z => by simp
  simp only [e, Option.bind_some, Bool.false_eq_true, if_false, decide_eq_true_eq]
  by_cases h : x < y
  · rw [if_pos h, if_pos h]
  · rw [if_neg h, if_neg h]
    split <;> rfl
theorem cmpI_pos (x y : Int) : 0 < cmpI x y ↔ y < x := by unfold cmpI; split <;> (try split) <;> omega
theorem cmpI_zero (x y : Int) : cmpI x y = 0 ↔ x = y := by unfold cmpI; split <;> (try split) <;> omega
def or4 (a b c d : Int) : Int := if a ≠ 0 then a else if b ≠ 0 then b else if c ≠ 0 then c else if d ≠ 0 then d else 0
theorem or_eq {fu : Nat} (a b c d : Int) (h : 4 < fu) : cmp_Or_int fu [a, b, c, d] = some (or4 a b c d) := by
  unfold cmp_Or_int
  rw [scan_all (l := [a, b, c, d]) (G := cmp_Or_int_L1 fu [a, b, c, d]) (fun e => e != 0) (fun i => gd [a, b, c, d] i 0) (by simp)
    (fun fk i hi => by rw [cmp_Or_int_L1, if_pos (by rw [decide_eq_true_eq]; omega), idx_in hi, gd_in 0 hi]; rfl)
    (fun fk => by rw [cmp_Or_int_L1, if_neg (by simp)]) fu (by simpa using h)]
  unfold or4
  have e : ∀ z : Int, (z != 0) = !decide (z = 0) := fun z => by by_cases h : z = 0 <;> simp [h]
  simp only [e]
  by_cases ha : a = 0 <;> by_cases hb : b = 0 <;> by_cases hc : c = 0 <;> by_cases hd : d = 0 <;> simp [ha, hb, hc, hd, List.findIdx_cons, gd, Out.on]
theorem compareFibers_eq {fu : Nat} (f g : Fiber) (h : 4 < fu) : ∃ r, impl_compareFibers fu f g = some r ∧ decide (r > 0) = fGt f g := by
  unfold impl_compareFibers
  simp only [compare_eq, Option.bind_some, or_eq _ _ _ _ h]
  refine ⟨_, rfl, ?_⟩
  rw [Bool.eq_iff_iff]
  simp only [fGt, decide_eq_true_eq, Bool.or_eq_true, Bool.and_eq_true, beq_iff_eq, or4]
  have a1 := cmpI_pos f.A g.A
  have a2 := cmpI_zero f.A g.A
  have b1 := cmpI_pos f.B g.B
  have b2 := cmpI_zero f.B g.B
  have c1 := cmpI_pos f.Length g.Length
  have c2 := cmpI_zero f.Length g.Length
  have d1 := cmpI_pos f.Risk g.Risk
  have d2 := cmpI_zero f.Risk g.Risk
  generalize cmpI f.A g.A = a at *
  generalize cmpI f.B g.B = b at *
  generalize cmpI f.Length g.Length = c at *
  generalize cmpI f.Risk g.Risk = d at *
  split <;> (try split) <;> (try split) <;> (try split) <;> constructor <;> intro h <;> simp only [decide_eq_true_eq] at * <;> omega
def bef (f g : Fiber) : Int := if f.A ≠ g.A then w64 (f.A - g.A) else if f.B ≠ g.B then w64 (f.B - g.B) else if f.Length ≠ g.Length then w64 (f.Length - g.Length) else w64 (f.Risk - g.Risk)
theorem l2Before_eq (fu : Nat) (f g : Fiber) : spec_l2Before fu f g = some (bef f g) := by
  unfold spec_l2Before bef
  by_cases h1 : f.A = g.A
  · by_cases h2 : f.B = g.B
    · by_cases h3 : f.Length = g.Length <;> simp [h1, h2, h3]
    · simp [h1, h2]
  · simp [h1]
theorem bef_gt {m : Nat} {f g : Fiber} (hm : m ≤ 8) (hf : fibOk m f = true) (hg : fibOk m g = true) : decide (bef f g > 0) = fGt f g := by
  simp only [fibOk, Bool.and_eq_true, decide_eq_true_eq] at hf hg
  rw [Bool.eq_iff_iff]
  simp only [fGt, decide_eq_true_eq, Bool.or_eq_true, Bool.and_eq_true, beq_iff_eq]
  unfold bef
  have e1 : w64 (f.A - g.A) = f.A - g.A := w64_in (by omega) (by omega)
  have e2 : w64 (f.B - g.B) = f.B - g.B := w64_in (by omega) (by omega)
  have e3 : w64 (f.Length - g.Length) = f.Length - g.Length := w64_in (by omega) (by omega)
  have e4 : w64 (f.Risk - g.Risk) = f.Risk - g.Risk := w64_in (by omega) (by omega)
  rw [e1, e2, e3, e4]
  clear e1 e2 e3 e4
  split
  · omega
  · split
    · omega
    · split <;> omega
theorem l2Fiber_eq {fu m : Nat} (f : Fiber) (hm : m ≤ 8) : spec_l2Fiber fu f (m : Int) = some (fibOk m f) := by
  unfold spec_l2Fiber
  simp only [l1In_eq, Option.bind_some]
  have e0 : w64 ((m : Int) - 1) = (m : Int) - 1 := w64_in (by omega) (by omega)
  rw [e0]
  unfold fibOk
  by_cases h1 : 0 ≤ f.A
  · by_cases h2 : f.A ≤ (m : Int) - 1
    · have e1 : w64 (f.A + 1) = f.A + 1 := w64_in (by omega) (by omega)
      rw [e1]
      have e2 : decide (f.A + 1 ≤ f.B) = decide (f.A < f.B) := by simp only [decide_eq_decide]; omega
      have e3 : decide (f.B ≤ (m : Int) - 1) = decide (f.B < (m : Int)) := by simp only [decide_eq_decide]; omega
      rw [e2, e3]
      simp only [h1, h2, decide_true, Bool.and_true, if_true, Bool.true_and]
      cases decide (f.A < f.B) <;> cases decide (f.B < (m : Int)) <;> cases decide (1 ≤ f.Length) <;> cases decide (f.Length ≤ 5000) <;> cases decide (0 ≤ f.Risk) <;> cases decide (f.Risk ≤ 9) <;> rfl
    · have : (decide (f.A < f.B) && decide (f.B < (m : Int))) = false := by
        rw [Bool.eq_false_iff]; simp only [ne_eq, Bool.and_eq_true, decide_eq_true_eq]; omega
      rw [← Bool.and_assoc (decide (f.A < f.B)), this]
      simp [h1, h2]
  · simp [h1]
def fibBad (m : Nat) (l : List Fiber) (i : Nat) : Bool := !fibOk m (gd l i f0) || (decide (0 < i) && fGt (gd l (i - 1) f0) (gd l i f0))
def fibBadS (m : Nat) (l : List Fiber) (i : Nat) : Bool := !fibOk m (gd l i f0) || (decide (0 < i) && decide (bef (gd l (i - 1) f0) (gd l i f0) > 0))
theorem fibBad_eq {m : Nat} (l : List Fiber) (hm : m ≤ 8) : (List.range l.length).any (fibBadS m l) = (List.range l.length).any (fibBad m l) := by
  by_cases hv : ∃ i, i < l.length ∧ fibOk m (gd l i f0) = false
  · obtain ⟨i, hi, hb⟩ := hv
    have h1 : (List.range l.length).any (fibBadS m l) = true := List.any_eq_true.2 ⟨i, List.mem_range.2 hi, by simp [fibBadS, hb]⟩
    have h2 : (List.range l.length).any (fibBad m l) = true := List.any_eq_true.2 ⟨i, List.mem_range.2 hi, by simp [fibBad, hb]⟩
    rw [h1, h2]
  · have hv' : ∀ i, i < l.length → fibOk m (gd l i f0) = true := fun i hi => by
      cases h : fibOk m (gd l i f0)
      · exact absurd ⟨i, hi, h⟩ hv
      · rfl
    refine any_same fun i hi => ?_
    have hi' := List.mem_range.1 hi
    unfold fibBadS fibBad
    by_cases h0 : 0 < i
    · rw [bef_gt hm (hv' (i - 1) (by omega)) (hv' i hi')]
    · simp [h0]
def netOk (n : Network) : Bool := (decide (2 ≤ n.Nodes.length) && decide (n.Nodes.length ≤ 8)) && (decide (n.Fibers.length ≤ 14) && (!((List.range n.Nodes.length).any (nodeBad n.Nodes)) && !((List.range n.Fibers.length).any (fibBad n.Nodes.length n.Fibers))))
def NetB (n : Network) : Prop := (n.Nodes.length ≤ 2097152 ∧ ∀ e ∈ n.Nodes, e.size ≤ 2097152) ∧ n.Fibers.length ≤ 2097152
theorem gd_mem {α : Type} {l : List α} {i : Nat} (d : α) (h : i < l.length) : gd l i d ∈ l := by rw [gd_in d h]; exact List.getElem_mem _
theorem implNet_eq {fu : Nat} (hfu : 2097153 ≤ fu) (n : Network) (hB : NetB n) : impl_IsValidNetwork fu n = some (netOk n) := by
  obtain ⟨⟨hl, hs⟩, hl2⟩ := hB
  unfold impl_IsValidNetwork
  rw [scan_all (l := List.range n.Nodes.length) (G := impl_IsValidNetwork_L1 fu n) (nodeBad n.Nodes) (fun i => false) (by simp; omega)
    (fun fk i hi => by
      have hi' : i < n.Nodes.length := by simpa using hi
      have hz := hs _ (gd_mem nm0 hi')
      rw [impl_IsValidNetwork_L1, if_pos (by simpa using hi'), idx_gd nm0 hi', List.getElem_range]
      simp only [Option.bind_some, isName_eq _ (show (gd n.Nodes i nm0).size < fu by omega) hz, nodeBad, seen]
      rcases Bool.eq_false_or_eq_true (nameOk (gd n.Nodes i nm0)) with h1 | h1
      · rw [sub_take (by omega)]
        simp only [h1, Bool.not_true, Bool.false_eq_true, if_false, Option.bind_some, containsS_eq _ _ (show (n.Nodes.take i).length < fu by simp; omega) (by simp; omega), Bool.false_or]
      · simp [h1])
    (fun fk => by rw [List.length_range, impl_IsValidNetwork_L1, if_neg (by simp)]) fu (by simp; omega)]
  rw [scan_all (l := List.range n.Fibers.length) (G := impl_IsValidNetwork_L2 fu n) (fibBad n.Nodes.length n.Fibers) (fun i => false) (by simp; omega)
    (fun fk i hi => by
      have hi' : i < n.Fibers.length := by simpa using hi
      rw [impl_IsValidNetwork_L2, if_pos (by simpa using hi'), idx_gd f0 hi', List.getElem_range]
      simp only [Option.bind_some, within_eq, fibBad, fibOk]
      obtain ⟨x, hx⟩ : ∃ x, x = gd n.Fibers i f0 := ⟨_, rfl⟩
      simp only [← hx]
      have a1 : decide (x.A < 0) = !decide (0 ≤ x.A) := by rw [← decide_not]; simp only [decide_eq_decide]; omega
      have a2 : decide (x.A ≥ x.B) = !decide (x.A < x.B) := by rw [← decide_not]; simp only [decide_eq_decide]; omega
      have a3 : decide (x.B ≥ (n.Nodes.length : Int)) = !decide (x.B < (n.Nodes.length : Int)) := by rw [← decide_not]; simp only [decide_eq_decide]; omega
      simp only [a1, a2, a3]
      by_cases b1 : (decide (0 ≤ x.A)) = false
      · simp [b1]
      rw [Bool.not_eq_false] at b1
      by_cases b2 : (decide (x.A < x.B)) = false
      · simp [b1, b2]
      rw [Bool.not_eq_false] at b2
      by_cases b3 : (decide (x.B < (n.Nodes.length : Int))) = false
      · simp [b1, b2, b3]
      rw [Bool.not_eq_false] at b3
      by_cases b4 : (decide (1 ≤ x.Length) && decide (x.Length ≤ 5000)) = false
      · simp only [b1, b2, b3, b4]; simp
      rw [Bool.not_eq_false] at b4
      by_cases b5 : (decide (0 ≤ x.Risk) && decide (x.Risk ≤ 9)) = false
      · simp only [b1, b2, b3, b4, b5]; simp
      rw [Bool.not_eq_false] at b5
      simp only [b1, b2, b3, b4, b5]
      by_cases h0 : 0 < i
      · rw [w64_dec h0 (by omega), idx_gd f0 (show i - 1 < n.Fibers.length by omega)]
        obtain ⟨r, h1, h2⟩ := compareFibers_eq (fu := fu) (gd n.Fibers (i - 1) f0) x (by omega)
        have h0' : ((i : Int) > 0) := by omega
        simp [h0, h1, h2, h0']
      · have h0' : ¬ ((i : Int) > 0) := by omega
        simp [h0, h0'])
    (fun fk => by rw [List.length_range, impl_IsValidNetwork_L2, if_neg (by simp)]) fu (by simp; omega)]
  unfold netOk
  have e1 : decide (2 ≤ (n.Nodes.length : Int)) = decide (2 ≤ n.Nodes.length) := by simp only [decide_eq_decide]; omega
  have e2 : decide ((n.Nodes.length : Int) ≤ 8) = decide (n.Nodes.length ≤ 8) := by simp only [decide_eq_decide]; omega
  have e3 : decide ((n.Fibers.length : Int) ≤ 14) = decide (n.Fibers.length ≤ 14) := by simp only [decide_eq_decide]; omega
  simp only [within_eq, e1, e2, e3]
  cases (List.range n.Nodes.length).any (nodeBad n.Nodes) <;> cases (List.range n.Fibers.length).any (fibBad n.Nodes.length n.Fibers) <;> cases decide (2 ≤ n.Nodes.length) <;> cases decide (n.Nodes.length ≤ 8) <;> cases decide (n.Fibers.length ≤ 14) <;> rfl
theorem specNet_eq {fu : Nat} (hfu : 2097153 ≤ fu) (n : Network) (hB : NetB n) : spec_l2Good fu n = some (netOk n) := by
  obtain ⟨⟨hl, hs⟩, hl2⟩ := hB
  unfold spec_l2Good netOk
  have e1 : decide (2 ≤ (n.Nodes.length : Int)) = decide (2 ≤ n.Nodes.length) := by simp only [decide_eq_decide]; omega
  have e2 : decide ((n.Nodes.length : Int) ≤ 8) = decide (n.Nodes.length ≤ 8) := by simp only [decide_eq_decide]; omega
  have e3 : decide ((n.Fibers.length : Int) > 14) = !decide (n.Fibers.length ≤ 14) := by rw [← decide_not]; simp only [decide_eq_decide]; omega
  simp only [l1In_eq, e1, e2, e3, Option.bind_some]
  cases hb : (decide (2 ≤ n.Nodes.length) && decide (n.Nodes.length ≤ 8))
  · rfl
  cases hc : decide (n.Fibers.length ≤ 14)
  · rfl
  simp only [Bool.and_eq_true, decide_eq_true_eq] at hb hc
  rw [scan_all (l := List.range n.Nodes.length) (G := spec_l2Good_L1 fu n) (nodeBad n.Nodes) (fun i => false) (by simp; omega)
    (fun fk i hi => by
      have hi' : i < n.Nodes.length := by simpa using hi
      have hz := hs _ (gd_mem nm0 hi')
      rw [spec_l2Good_L1, if_pos (by simpa using hi'), idx_gd nm0 hi', List.getElem_range]
      simp only [Option.bind_some, l2Name_eq _ (show (gd n.Nodes i nm0).size < fu by omega) hz, nodeBad, seen]
      by_cases h1 : (nameOk (gd n.Nodes i nm0)) = false
      · simp [h1]
      rw [Bool.not_eq_false] at h1
      · have hp : (fun x : ByteArray => x.toList == (gd n.Nodes i nm0).toList) n.Nodes[i] = true := by simp [gd_in nm0 hi']
        have ha : n.Nodes.any (fun x => x.toList == (gd n.Nodes i nm0).toList) = true := List.any_eq_true.2 ⟨_, List.getElem_mem hi', hp⟩
        have hfi := findIdx_self (p := fun x : ByteArray => x.toList == (gd n.Nodes i nm0).toList) hi' hp
        have hsy : (n.Nodes.take i).any (fun x => (gd n.Nodes i nm0).toList == x.toList) = (n.Nodes.take i).any (fun x => x.toList == (gd n.Nodes i nm0).toList) := any_same fun x _ => beq_symm' _ _
        simp only [h1, Bool.not_true, Bool.false_eq_true, if_false, Option.bind_some, l2Find_eq _ _ (show n.Nodes.length < fu by omega) hl, ha, if_true, Bool.false_or, hsy]
        have he : (((n.Nodes.findIdx fun x => x.toList == (gd n.Nodes i nm0).toList : Nat) : Int) != (i : Int)) = (n.Nodes.take i).any (fun x => x.toList == (gd n.Nodes i nm0).toList) := by
          rw [Bool.eq_iff_iff]
          simp only [bne_iff_ne, ne_eq, Int.natCast_inj, hfi, Bool.not_eq_false]
        rw [he])
    (fun fk => by rw [List.length_range, spec_l2Good_L1, if_neg (by simp)]) fu (by simp; omega)]
  rw [scan_all (l := List.range n.Fibers.length) (G := spec_l2Good_L2 fu n) (fibBadS n.Nodes.length n.Fibers) (fun i => false) (by simp; omega)
    (fun fk i hi => by
      have hi' : i < n.Fibers.length := by simpa using hi
      rw [spec_l2Good_L2, if_pos (by simpa using hi'), idx_gd f0 hi', List.getElem_range]
      simp only [Option.bind_some, l2Fiber_eq _ hb.2, fibBadS]
      by_cases h1 : (fibOk n.Nodes.length (gd n.Fibers i f0)) = false
      · simp [h1]
      rw [Bool.not_eq_false] at h1
      simp only [h1]
      by_cases h0 : 0 < i
      · rw [w64_dec h0 (by omega), idx_gd f0 (show i - 1 < n.Fibers.length by omega)]
        have h0' : ((i : Int) > 0) := by omega
        simp [h0, l2Before_eq, h0']
      · have h0' : ¬ ((i : Int) > 0) := by omega
        simp [h0, h0'])
    (fun fk => by rw [List.length_range, spec_l2Good_L2, if_neg (by simp)]) fu (by simp; omega), fibBad_eq _ hb.2]
  cases (List.range n.Nodes.length).any (nodeBad n.Nodes) <;> cases (List.range n.Fibers.length).any (fibBad n.Nodes.length n.Fibers) <;> rfl
structure NetF (n : Network) : Prop where
  lo : 2 ≤ n.Nodes.length
  hi : n.Nodes.length ≤ 8
  fib : n.Fibers.length ≤ 14
  each : ∀ f ∈ n.Fibers, 0 ≤ f.A ∧ f.A < f.B ∧ f.B < (n.Nodes.length : Int) ∧ 1 ≤ f.Length ∧ f.Length ≤ 5000 ∧ 0 ≤ f.Risk ∧ f.Risk ≤ 9
theorem netF {n : Network} (h : netOk n = true) : NetF n := by
  unfold netOk at h
  simp only [Bool.and_eq_true, decide_eq_true_eq, Bool.not_eq_true'] at h
  obtain ⟨⟨h1, h2⟩, h3, h4, h5⟩ := h
  refine ⟨h1, h2, h3, fun f hf => ?_⟩
  obtain ⟨i, hi, rfl⟩ := List.mem_iff_getElem.1 hf
  rw [Bool.eq_false_iff] at h5
  have h6 : fibBad n.Nodes.length n.Fibers i = false := by
    rw [Bool.eq_false_iff]
    intro h7
    exact h5 (List.any_eq_true.2 ⟨i, List.mem_range.2 hi, h7⟩)
  unfold fibBad at h6
  rw [Bool.or_eq_false_iff] at h6
  have h8 := h6.1
  rw [gd_in f0 hi] at h8
  simp only [Bool.not_eq_false', fibOk, Bool.and_eq_true, decide_eq_true_eq] at h8
  omega
end AT

namespace AT
theorem app_ok {α : Type} {l m : List α} (h : l.length + m.length ≤ 1099511627776) : app l m = some (l ++ m) := by unfold app; rw [if_pos h]
theorem indexI_eq {fu : Nat} (l : List Int) (v : Int) (h : l.length < fu) (hn : l.length ≤ 2097152) : slices_Index_int_int fu l v = some (if l.any (fun x => x == v) then ((l.findIdx fun x => x == v : Nat) : Int) else -1) := by
  unfold slices_Index_int_int
  rw [scan_all (l := l) (G := slices_Index_int_int_L1 fu l v) (fun x => x == v) (fun i => (i : Int)) (by omega)
    (fun fk i hi => by rw [slices_Index_int_int_L1, if_pos (by simpa using hi), idx_in hi, Option.bind_some, beq_symm' v])
    (fun fk => by rw [slices_Index_int_int_L1, if_neg (by simp)]) fu h]
  cases l.any (fun x => x == v) <;> rfl
theorem containsI_eq {fu : Nat} (l : List Int) (v : Int) (h : l.length < fu) (hn : l.length ≤ 2097152) : slices_Contains_int_int fu l v = some (l.any fun x => x == v) := by
  unfold slices_Contains_int_int
  rw [indexI_eq l v h hn]
  cases l.any (fun x => x == v)
  · rfl
  · simp
theorem l1Has_eq {fu : Nat} (l : List Int) (v : Int) (h : l.length < fu) (hn : l.length ≤ 2097152) : spec_l1Has fu l v = some (l.any fun x => x == v) := by
  unfold spec_l1Has
  rw [scan_all (l := l) (G := spec_l1Has_L1 fu l v) (fun x => x == v) (fun i => true) (by omega)
    (fun fk i hi => by rw [spec_l1Has_L1, if_pos (by simpa using hi), idx_in hi, Option.bind_some])
    (fun fk => by rw [spec_l1Has_L1, if_neg (by simp)]) fu h]
  cases l.any (fun x => x == v) <;> rfl
theorem repeat_eq {fu : Nat} (hfu : 2097153 ≤ fu) {n : Nat} (h2 : 2 ≤ n) (h8 : n ≤ 8) : slices_Repeat_int_int fu [-1] (n : Int) = some (List.replicate n (-1)) := by
  obtain ⟨k, rfl⟩ : ∃ k, fu = k + 6 := ⟨fu - 6, by omega⟩
  have : n = 2 ∨ n = 3 ∨ n = 4 ∨ n = 5 ∨ n = 6 ∨ n = 7 ∨ n = 8 := by omega
  rcases this with rfl | rfl | rfl | rfl | rfl | rfl | rfl <;> rfl
theorem idxZ {α : Type} {l : List α} {a : Int} (d : α) (h0 : 0 ≤ a) (h : a < (l.length : Int)) : idx l a = some (gd l a.toNat d) := by
  obtain ⟨k, rfl⟩ : ∃ k : Nat, a = (k : Int) := ⟨a.toNat, by omega⟩
  rw [idx_gd d (by omega), Int.toNat_natCast]
def rel (o : List Int) (a b L : Int) : Bool := decide (0 ≤ gd o a.toNat 0) && (decide (gd o b.toNat 0 < 0) || decide (w64 (gd o a.toNat 0 + L) < gd o b.toNat 0))
def rset (o : List Int) (a b L : Int) : List Int := if rel o a b L then o.set b.toNat (w64 (gd o a.toNat 0 + L)) else o
def stp (s : List Int × Bool) (f : Fiber) : List Int × Bool := (rset (rset s.1 f.A f.B f.Length) f.B f.A f.Length, s.2 || rel s.1 f.A f.B f.Length || rel (rset s.1 f.A f.B f.Length) f.B f.A f.Length)
theorem rset_len (o : List Int) (a b L : Int) : (rset o a b L).length = o.length := by
  unfold rset; split
  · rw [List.length_set]
  · rfl
theorem one_eq {fu fk : Nat} (f : Fiber) (o : List Int) (ch : Bool) (i2 a b : Int) (p : IA 2) (h1 : i2 < 2) (hp : idx [(⟨[f.A, f.B], rfl⟩ : IA 2), (⟨[f.B, f.A], rfl⟩ : IA 2)] i2 = some p) (ga : p.get (0 + 0 * 1) = some a) (gb : p.get (0 + 1 * 1) = some b)
    (ha0 : 0 ≤ a) (ha : a < (o.length : Int)) (hb0 : 0 ≤ b) (hb : b < (o.length : Int)) :
    impl_lengthsFrom_L3 fu f (fk + 1) o ch i2 = impl_lengthsFrom_L3 fu f fk (rset o a b f.Length) (ch || rel o a b f.Length) (w64 (i2 + 1)) := by
  rw [impl_lengthsFrom_L3]
  have hc : decide (i2 < ([(⟨[f.A, f.B], rfl⟩ : IA 2), (⟨[f.B, f.A], rfl⟩ : IA 2)].length : Int)) = true := decide_eq_true h1
  have c0 : chk 0 2 = some 0 := rfl
  have c1 : chk 1 2 = some 1 := rfl
  have xa := idxZ (l := o) 0 ha0 ha
  have xb := idxZ (l := o) 0 hb0 hb
  simp only [hc, if_true, hp, c0, c1, ga, gb, Option.bind_some, xa, xb]
  unfold rset rel
  generalize gd o a.toNat 0 = x
  generalize gd o b.toNat 0 = y
  generalize w64 (x + f.Length) = z
  generalize w64 (i2 + 1) = j
  by_cases hx : 0 ≤ x
  · have e1 : decide (x ≥ 0) = true := decide_eq_true hx
    have e2 : decide (0 ≤ x) = true := decide_eq_true hx
    simp only [e1, e2, if_true, Bool.true_and]
    by_cases hy : y < 0
    · have e3 : decide (y < 0) = true := decide_eq_true hy
      simp only [e3, if_true, Option.bind_some, Bool.true_or, Bool.or_true]
    · have e3 : decide (y < 0) = false := decide_eq_false hy
      have e4 : decide (y > z) = decide (z < y) := rfl
      simp only [e3, Bool.false_eq_true, if_false, Option.bind_some, Bool.false_or, e4]
      cases decide (z < y)
      · simp only [Bool.false_eq_true, if_false, Bool.or_false]
      · simp only [if_true, Bool.or_true]
  · have e1 : decide (x ≥ 0) = false := decide_eq_false hx
    have e2 : decide (0 ≤ x) = false := decide_eq_false hx
    simp only [e1, e2, Bool.false_eq_true, if_false, Bool.false_and, Option.bind_some, Bool.or_false]
theorem two_eq {fu fk : Nat} (f : Fiber) (o : List Int) (ch : Bool) (ha0 : 0 ≤ f.A) (ha : f.A < (o.length : Int)) (hb0 : 0 ≤ f.B) (hb : f.B < (o.length : Int)) :
    impl_lengthsFrom_L3 fu f (fk + 3) o ch 0 = some ((stp (o, ch) f).1, (stp (o, ch) f).2, 2) := by
  rw [one_eq f o ch 0 f.A f.B ⟨[f.A, f.B], rfl⟩ (by omega) rfl rfl rfl ha0 ha hb0 hb]
  rw [show w64 (0 + 1) = 1 from rfl]
  rw [one_eq f _ _ 1 f.B f.A ⟨[f.B, f.A], rfl⟩ (by omega) rfl rfl rfl hb0 (by rw [rset_len]; exact hb) ha0 (by rw [rset_len]; exact ha)]
  rfl
theorem cond_eq (o : List Int) (a b L : Int) (ha0 : 0 ≤ a) (ha : a < (o.length : Int)) (hb0 : 0 ≤ b) (hb : b < (o.length : Int)) :
    ((idx o a).bind fun e3 => if decide (e3 ≥ 0) then (idx o b).bind fun e4 => if decide (e4 < 0) then some true else (idx o a).bind fun e5 => (idx o b).bind fun e6 => some (decide ((w64 (e5 + L)) < e6)) else some false) = some (rel o a b L) := by
  have xa := idxZ (l := o) 0 ha0 ha
  have xb := idxZ (l := o) 0 hb0 hb
  simp only [xa, xb, Option.bind_some]
  unfold rel
  generalize gd o a.toNat 0 = x
  generalize gd o b.toNat 0 = y
  generalize w64 (x + L) = z
  by_cases hx : 0 ≤ x
  · have e1 : decide (x ≥ 0) = true := decide_eq_true hx
    have e2 : decide (0 ≤ x) = true := decide_eq_true hx
    simp only [e1, e2, if_true, Bool.true_and]
    by_cases hy : y < 0
    · have e3 : decide (y < 0) = true := decide_eq_true hy
      simp only [e3, if_true, Bool.true_or]
    · have e3 : decide (y < 0) = false := decide_eq_false hy
      simp only [e3, Bool.false_eq_true, if_false, Bool.false_or]
  · have e1 : decide (x ≥ 0) = false := decide_eq_false hx
    have e2 : decide (0 ≤ x) = false := decide_eq_false hx
    simp only [e1, e2, Bool.false_eq_true, if_false, Bool.false_and]
theorem spec_step {fu fk : Nat} (n : Network) (o : List Int) (m : Bool) {i : Nat} (hi : i < n.Fibers.length) (ha0 : 0 ≤ n.Fibers[i].A) (ha : n.Fibers[i].A < (o.length : Int)) (hb0 : 0 ≤ n.Fibers[i].B) (hb : n.Fibers[i].B < (o.length : Int)) :
    spec_l19From_L3 fu n (fk + 1) o m i = spec_l19From_L3 fu n fk (stp (o, m) n.Fibers[i]).1 (stp (o, m) n.Fibers[i]).2 (w64 ((i : Int) + 1)) := by
  have hi' : (i : Int) < (n.Fibers.length : Int) := by omega
  rw [spec_l19From_L3, if_pos (decide_eq_true hi'), idx_in hi, Option.bind_some]
  generalize n.Fibers[i] = f at ha0 ha hb0 hb
  rw [cond_eq o f.A f.B f.Length ha0 ha hb0 hb, Option.bind_some]
  have xa := idxZ (l := o) 0 ha0 ha
  have xb := idxZ (l := o) 0 hb0 hb
  unfold stp
  simp only
  cases hr : rel o f.A f.B f.Length
  · have e1 : rset o f.A f.B f.Length = o := by unfold rset; rw [hr]; rfl
    rw [if_neg Bool.false_ne_true, cond_eq o f.B f.A f.Length hb0 hb ha0 ha, Option.bind_some, e1]
    cases hr2 : rel o f.B f.A f.Length
    · have e2 : rset o f.B f.A f.Length = o := by unfold rset; rw [hr2]; rfl
      rw [if_neg Bool.false_ne_true, e2, Bool.or_false, Bool.or_false]
    · have e2 : rset o f.B f.A f.Length = o.set f.A.toNat (w64 (gd o f.B.toNat 0 + f.Length)) := by unfold rset; rw [hr2]; rfl
      rw [if_pos rfl, xb, xa, e2, Bool.or_true]; rfl
  · have e1 : rset o f.A f.B f.Length = o.set f.B.toNat (w64 (gd o f.A.toNat 0 + f.Length)) := by unfold rset; rw [hr]; rfl
    rw [if_pos rfl, xa, xb, Option.bind_some, Option.bind_some, ← e1]
    have h1 := rset_len o f.A f.B f.Length
    generalize rset o f.A f.B f.Length = o1 at h1
    have xa := idxZ (l := o1) 0 ha0 (by rw [h1]; exact ha)
    have xb := idxZ (l := o1) 0 hb0 (by rw [h1]; exact hb)
    rw [cond_eq o1 f.B f.A f.Length hb0 (by rw [h1]; exact hb) ha0 (by rw [h1]; exact ha), Option.bind_some]
    cases hr2 : rel o1 f.B f.A f.Length
    · have e2 : rset o1 f.B f.A f.Length = o1 := by unfold rset; rw [hr2]; rfl
      rw [if_neg Bool.false_ne_true, e2, Bool.or_true, Bool.or_false]
    · have e2 : rset o1 f.B f.A f.Length = o1.set f.A.toNat (w64 (gd o1 f.B.toNat 0 + f.Length)) := by unfold rset; rw [hr2]; rfl
      rw [if_pos rfl, xb, xa, e2, Bool.or_true]; rfl
theorem stp_len (s : List Int × Bool) (f : Fiber) : (stp s f).1.length = s.1.length := by unfold stp; simp only [rset_len]
theorem round_impl {fu : Nat} (hfu : 2097153 ≤ fu) (n : Network) (hn : NetF n) : ∀ (fk i : Nat) (s : List Int × Bool), i ≤ n.Fibers.length → n.Fibers.length - i < fk → s.1.length = n.Nodes.length →
    impl_lengthsFrom_L2 fu n fk s.1 s.2 i = some (((n.Fibers.drop i).foldl stp s).1, ((n.Fibers.drop i).foldl stp s).2, (n.Fibers.length : Int)) ∧
    spec_l19From_L3 fu n fk s.1 s.2 i = some (((n.Fibers.drop i).foldl stp s).1, ((n.Fibers.drop i).foldl stp s).2, (n.Fibers.length : Int)) := by
  have hf14 := hn.fib
  intro fk
  induction fk with
  | zero => intro i _ _ h; omega
  | succ fk ih =>
    intro i s hi hk hs
    by_cases h : i < n.Fibers.length
    · have hd : n.Fibers.drop i = n.Fibers[i] :: n.Fibers.drop (i + 1) := (List.getElem_cons_drop h).symm
      have hf := hn.each _ (List.getElem_mem h)
      have hi' : (i : Int) < (n.Fibers.length : Int) := by omega
      obtain ⟨q1, q2⟩ := ih (i + 1) (stp s n.Fibers[i]) h (by omega) (by rw [stp_len]; exact hs)
      rw [hd, List.foldl_cons]
      obtain ⟨k, rfl⟩ : ∃ k, fu = k + 3 := ⟨fu - 3, by omega⟩
      constructor
      · rw [impl_lengthsFrom_L2, if_pos (decide_eq_true hi'), idx_in h, Option.bind_some, two_eq _ _ _ hf.1 (by omega) (by omega) (by omega), Option.bind_some, w64_inc h (by omega)]
        exact q1
      · rw [spec_step n s.1 s.2 h hf.1 (by omega) (by omega) (by omega), w64_inc h (by omega)]
        exact q2
    · obtain rfl : i = n.Fibers.length := by omega
      rw [impl_lengthsFrom_L2, spec_l19From_L3, if_neg (by simp), if_neg (by simp), List.drop_length]
      exact ⟨rfl, rfl⟩
def sumf {α : Type} (h : α → Nat) : List α → Nat
  | [] => 0
  | x :: l => h x + sumf h l
theorem sumf_set {α : Type} (h : α → Nat) (v : α) : ∀ (l : List α) (i : Nat) (hi : i < l.length), sumf h (l.set i v) + h l[i] = sumf h l + h v
  | x :: l, 0, _ => by show h v + sumf h l + h x = h x + sumf h l + h v; omega
  | x :: l, i + 1, hi => by
    have := sumf_set h v l i (by simpa using hi)
    show h x + sumf h (l.set i v) + h (l[i]'(by simpa using hi)) = h x + sumf h l + h v
    omega
theorem sumf_le {α : Type} (h : α → Nat) (m : Nat) : ∀ (l : List α), (∀ x ∈ l, h x ≤ m) → sumf h l ≤ m * l.length
  | [], _ => Nat.le_refl _
  | x :: l, hx => by
    have h1 := hx x (List.mem_cons_self ..)
    have := sumf_le h m l (fun y hy => hx y (List.mem_cons_of_mem _ hy))
    show h x + sumf h l ≤ m * (l.length + 1)
    rw [Nat.mul_add, Nat.mul_one]; omega
def gg (z : Int) : Nat := if z < 0 then 40001 else z.toNat
def cc (z : Int) : Nat := if z < 0 then 0 else 1
structure Inv (N : Nat) (o : List Int) : Prop where
  len : o.length = N
  hi : ∀ x ∈ o, x + 5000 ≤ 5000 * (sumf cc o : Int)
theorem rset_inv {N : Nat} (hN : N ≤ 8) {o : List Int} (h : Inv N o) {a b L : Int} (ha0 : 0 ≤ a) (ha : a < N) (hb0 : 0 ≤ b) (hb : b < N) (hL1 : 1 ≤ L) (hL : L ≤ 5000) :
    Inv N (rset o a b L) ∧ (rel o a b L = false → rset o a b L = o) ∧ (rel o a b L = true → sumf gg (rset o a b L) < sumf gg o) := by
  have hlen := h.len
  have hnn := sumf_le cc 1 o (fun x _ => by unfold cc; split <;> omega)
  cases hr : rel o a b L
  · have e1 : rset o a b L = o := by unfold rset; rw [hr]; rfl
    rw [e1]
    exact ⟨h, fun _ => rfl, fun h => by cases h⟩
  · have e1 : rset o a b L = o.set b.toNat (w64 (gd o a.toNat 0 + L)) := by unfold rset; rw [hr]; rfl
    have hA : a.toNat < o.length := by omega
    have hB : b.toNat < o.length := by omega
    unfold rel at hr
    rw [gd_in 0 hA, gd_in 0 hB] at hr
    rw [gd_in 0 hA] at e1
    have hx := h.hi _ (List.getElem_mem hA)
    have hy := h.hi _ (List.getElem_mem hB)
    have s1 := sumf_set cc (w64 (o[a.toNat] + L)) o b.toNat hB
    have s2 := sumf_set gg (w64 (o[a.toNat] + L)) o b.toNat hB
    rw [e1]
    clear e1
    generalize o[a.toNat] = x at *
    generalize o[b.toNat] = y at *
    simp only [Bool.and_eq_true, Bool.or_eq_true, decide_eq_true_eq] at hr
    obtain ⟨hx0, hr⟩ := hr
    have hw : w64 (x + L) = x + L := w64_in (by omega) (by omega)
    rw [hw] at s1 s2 hr ⊢
    clear hw
    have hv : cc (x + L) = 1 := by unfold cc; rw [if_neg (by omega)]
    have hg : (gg (x + L) : Int) = x + L := by unfold gg; rw [if_neg (by omega)]; omega
    rw [hv] at s1
    have key : (x + L : Int) + 5000 ≤ 5000 * (sumf cc (o.set b.toNat (x + L)) : Int) ∧ sumf cc o ≤ sumf cc (o.set b.toNat (x + L)) ∧ gg (x + L) < gg y := by
      rcases hr with hr | hr
      · have c1 : cc y = 0 := by unfold cc; rw [if_pos hr]
        have c2 : gg y = 40001 := by unfold gg; rw [if_pos hr]
        rw [c1] at s1
        rw [c2]
        omega
      · by_cases hy0 : y < 0
        · omega
        · have c1 : cc y = 1 := by unfold cc; rw [if_neg hy0]
          have c2 : (gg y : Int) = y := by unfold gg; rw [if_neg hy0]; omega
          rw [c1] at s1
          omega
    refine ⟨⟨by rw [List.length_set]; exact hlen, fun z hz => ?_⟩, fun h => (by cases h), fun _ => (by omega)⟩
    rcases List.mem_or_eq_of_mem_set hz with hz | rfl
    · have := h.hi z hz
      omega
    · exact key.1
theorem stp_inv {N : Nat} (hN : N ≤ 8) {s : List Int × Bool} (h : Inv N s.1) {f : Fiber} (ha0 : 0 ≤ f.A) (ha : f.A < N) (hb0 : 0 ≤ f.B) (hb : f.B < N) (hL1 : 1 ≤ f.Length) (hL : f.Length ≤ 5000) :
    Inv N (stp s f).1 ∧ sumf gg (stp s f).1 ≤ sumf gg s.1 ∧ ((stp s f).2 = true → s.2 = true ∨ sumf gg (stp s f).1 < sumf gg s.1) := by
  obtain ⟨a1, a2, a3⟩ := rset_inv hN h ha0 ha hb0 hb hL1 hL
  obtain ⟨b1, b2, b3⟩ := rset_inv hN a1 hb0 hb ha0 ha hL1 hL
  unfold stp
  simp only
  generalize rset (rset s.1 f.A f.B f.Length) f.B f.A f.Length = o2 at *
  generalize rel (rset s.1 f.A f.B f.Length) f.B f.A f.Length = r2 at *
  generalize rset s.1 f.A f.B f.Length = o1 at *
  generalize rel s.1 f.A f.B f.Length = r1 at *
  refine ⟨b1, ?_, ?_⟩
  · cases r1
    · rw [a2 rfl] at b2 b3
      cases r2
      · rw [b2 rfl]; exact Nat.le_refl _
      · exact Nat.le_of_lt (b3 rfl)
    · have := a3 rfl
      cases r2
      · rw [b2 rfl]; omega
      · have := b3 rfl; omega
  · cases s.2
    · cases r1
      · cases r2
        · intro h; cases h
        · intro _; right; rw [a2 rfl] at b3; exact b3 rfl
      · intro _; right
        have := a3 rfl
        cases r2
        · rw [b2 rfl]; exact this
        · have := b3 rfl; omega
    · intro _; exact .inl rfl
theorem fold_inv {N : Nat} (hN : N ≤ 8) : ∀ (fs : List Fiber) (s : List Int × Bool), (∀ f ∈ fs, 0 ≤ f.A ∧ f.A < f.B ∧ f.B < (N : Int) ∧ 1 ≤ f.Length ∧ f.Length ≤ 5000 ∧ 0 ≤ f.Risk ∧ f.Risk ≤ 9) → Inv N s.1 →
    Inv N (fs.foldl stp s).1 ∧ sumf gg (fs.foldl stp s).1 ≤ sumf gg s.1 ∧ ((fs.foldl stp s).2 = true → s.2 = true ∨ sumf gg (fs.foldl stp s).1 < sumf gg s.1)
  | [], s, _, h => ⟨h, Nat.le_refl _, fun h => .inl h⟩
  | f :: fs, s, hf, h => by
    have f1 := hf f (List.mem_cons_self ..)
    obtain ⟨a1, a2, a3⟩ := stp_inv hN h (f := f) f1.1 (by omega) (by omega) (by omega) f1.2.2.2.1 f1.2.2.2.2.1
    obtain ⟨b1, b2, b3⟩ := fold_inv hN fs (stp s f) (fun g hg => hf g (List.mem_cons_of_mem _ hg)) a1
    rw [List.foldl_cons]
    refine ⟨b1, by omega, fun h => ?_⟩
    rcases b3 h with c | c
    · rcases a3 c with d | d
      · exact .inl d
      · exact .inr (by omega)
    · exact .inr (by omega)
theorem rounds {fu : Nat} (hfu : 2097153 ≤ fu) (n : Network) (hn : NetF n) : ∀ (m : Nat) (o : List Int) (fk : Nat), sumf gg o ≤ m → m + 2 ≤ fk → Inv n.Nodes.length o →
    ∃ r, impl_lengthsFrom_L1 fu n fk o true = some (r, false) ∧ spec_l19From_L2 fu n fk o true = some (r, false) ∧ r.length = n.Nodes.length := by
  have hf14 := hn.fib
  intro m
  induction m with
  | zero =>
    intro o fk ho hk hI
    obtain ⟨k, rfl⟩ : ∃ k, fk = k + 2 := ⟨fk - 2, by omega⟩
    obtain ⟨q1, q2⟩ := round_impl hfu n hn fu 0 (o, false) (by omega) (by omega) hI.len
    obtain ⟨p1, p2, p3⟩ := fold_inv hn.hi n.Fibers (o, false) hn.each hI
    rw [List.drop_zero] at q1 q2
    have h0 : ((0 : Nat) : Int) = 0 := rfl
    rw [h0] at q1 q2
    simp only at q1 q2
    rw [impl_lengthsFrom_L1, spec_l19From_L2, if_pos rfl, if_pos rfl, q1, q2, Option.bind_some, Option.bind_some]
    generalize n.Fibers.foldl stp (o, false) = w at *
    cases hw : w.2
    · simp only
      rw [impl_lengthsFrom_L1, spec_l19From_L2]
      exact ⟨w.1, rfl, rfl, p1.len⟩
    · rcases p3 hw with c | c
      · cases c
      · simp only at c; omega
  | succ m ih =>
    intro o fk ho hk hI
    obtain ⟨k, rfl⟩ : ∃ k, fk = k + 2 := ⟨fk - 2, by omega⟩
    obtain ⟨q1, q2⟩ := round_impl hfu n hn fu 0 (o, false) (by omega) (by omega) hI.len
    obtain ⟨p1, p2, p3⟩ := fold_inv hn.hi n.Fibers (o, false) hn.each hI
    rw [List.drop_zero] at q1 q2
    have h0 : ((0 : Nat) : Int) = 0 := rfl
    rw [h0] at q1 q2
    simp only at q1 q2
    rw [impl_lengthsFrom_L1, spec_l19From_L2, if_pos rfl, if_pos rfl, q1, q2, Option.bind_some, Option.bind_some]
    generalize n.Fibers.foldl stp (o, false) = w at *
    cases hw : w.2
    · simp only
      rw [impl_lengthsFrom_L1, spec_l19From_L2]
      exact ⟨w.1, rfl, rfl, p1.len⟩
    · rcases p3 hw with c | c
      · cases c
      · simp only at c
        exact ih w.1 (k + 1) (by omega) (by omega) p1
theorem ones_loop {fu : Nat} (n : Network) (hn : n.Nodes.length ≤ 8) : ∀ (fk i : Nat), i ≤ n.Nodes.length → n.Nodes.length - i < fk → spec_l19From_L1 fu n fk (List.replicate i (-1)) i = some (List.replicate n.Nodes.length (-1), (n.Nodes.length : Int)) := by
  intro fk
  induction fk with
  | zero => intro i _ h; omega
  | succ fk ih =>
    intro i hi hk
    rw [spec_l19From_L1]
    by_cases h : i < n.Nodes.length
    · have hi' : (i : Int) < (n.Nodes.length : Int) := by omega
      rw [if_pos (decide_eq_true hi'), app_ok (by simp; omega), Option.bind_some, w64_inc h (by omega), ← List.replicate_succ']
      exact ih (i + 1) h (by omega)
    · obtain rfl : i = n.Nodes.length := by omega
      rw [if_neg (by simp)]
theorem from_both {fu : Nat} (hfu : 2097153 ≤ fu) (n : Network) (hn : NetF n) {a : Nat} (ha : a < n.Nodes.length) : ∃ r, impl_lengthsFrom fu n a = some r ∧ spec_l19From fu n a = some r ∧ r.length = n.Nodes.length := by
  have h8 := hn.hi
  have hI : Inv n.Nodes.length ((List.replicate n.Nodes.length (-1 : Int)).set a 0) := by
    refine ⟨by simp, fun x hx => ?_⟩
    have s1 := sumf_set cc 0 (List.replicate n.Nodes.length (-1 : Int)) a (by simpa using ha)
    have c1 : cc 0 = 1 := rfl
    have c2 : cc ((List.replicate n.Nodes.length (-1 : Int))[a]'(by simpa using ha)) = 0 := by rw [List.getElem_replicate]; rfl
    rw [c1, c2] at s1
    have hx0 : x ≤ 0 := by
      rcases List.mem_or_eq_of_mem_set hx with hx | rfl
      · have := (List.mem_replicate.1 hx).2; omega
      · exact Int.le_refl _
    omega
  have hp : sumf gg ((List.replicate n.Nodes.length (-1 : Int)).set a 0) ≤ 40001 * ((List.replicate n.Nodes.length (-1 : Int)).set a 0).length := by
    refine sumf_le gg 40001 _ fun x hx => ?_
    rcases List.mem_or_eq_of_mem_set hx with hx | rfl
    · rw [(List.mem_replicate.1 hx).2]; exact Nat.le_refl _
    · show (0 : Nat) ≤ _; omega
  rw [hI.len] at hp
  obtain ⟨r, r1, r2, r3⟩ := rounds hfu n hn 320008 _ fu (by omega) (by omega) hI
  have hs := ones_loop (fu := fu) n h8 fu 0 (by omega) (by omega)
  have hx : idx (List.replicate n.Nodes.length (-1 : Int)) (a : Int) = some (-1) := by rw [idx_in (by simpa using ha), List.getElem_replicate]
  rw [show List.replicate 0 (-1 : Int) = [] from rfl, show ((0 : Nat) : Int) = 0 from rfl] at hs
  unfold impl_lengthsFrom spec_l19From
  rw [repeat_eq hfu hn.lo h8, hs]
  simp only [Option.bind_some, hx, Int.toNat_natCast, r1, r2]
  exact ⟨r, rfl, rfl, r3⟩
end AT
