/- Networks, plainly: names, fibers, validity. -/
import Derived.Test.YtmokfdffnijbbaaP1
import Derived.Test.YtmokfdffnijbbaaAtL
import Derived.Test.YtmokfdffnijbbaaQCur
set_option linter.unusedSimpArgs false
set_option linter.unusedVariables false
namespace AT
def chr (s : ByteArray) (i : Nat) : Int := ((s[i]?).map fun b => (b.toNat : Int)).getD 0
theorem sidx_chr {s : ByteArray} {i : Nat} (h : i < s.size) : sidx s (i : Int) = some ⟨chr s i⟩ := by
  have e : s[i]? = some (s[i]'h) := by simp [h]
  unfold sidx chr
  rw [if_pos (by omega), Int.toNat_natCast, e]
  rfl
def isLet (c : Int) : Bool := decide (97 ≤ c) && decide (c ≤ 122)
def isDig (c : Int) : Bool := decide (48 ≤ c) && decide (c ≤ 57)
def sgnBad (s : ByteArray) (i : Nat) : Bool := !(isLet (chr s i) || isDig (chr s i))
def chrBad (s : ByteArray) (i : Nat) : Bool := !isLet (chr s i) && (!isDig (chr s i) || i == 0)
def nameOk (s : ByteArray) : Bool := !((List.range s.size).any (chrBad s)) && (decide (1 ≤ s.size) && decide (s.size ≤ 8))
theorem isName_eq {fu : Nat} (s : ByteArray) (h : s.size < fu) (hn : s.size ≤ 2097152) : impl_isName fu s = some (nameOk s) := by
  unfold impl_isName
  rw [scan_all (l := List.range s.size) (G := impl_isName_L1 fu s) (chrBad s) (fun i => false) (by simp; omega)
    (fun fk i hi => by
      have hi' : i < s.size := by simpa using hi
      rw [impl_isName_L1, if_pos (by simpa using hi'), sidx_chr hi', List.getElem_range]
      simp only [Option.bind_some, chrBad, isLet, isDig, ge_iff_le]
      have e0 : ((i : Int) == 0) = (i == 0) := by rw [Bool.eq_iff_iff]; simp only [beq_iff_eq]; omega
      rw [e0]
      obtain ⟨b, hb⟩ : ∃ b, b = (i == 0) := ⟨_, rfl⟩
      simp only [← hb]
      by_cases h1 : 97 ≤ chr s i <;> by_cases h2 : 48 ≤ chr s i <;> by_cases h3 : chr s i ≤ 122 <;> by_cases h4 : chr s i ≤ 57 <;> cases b <;> simp [h1, h2, h3, h4])
    (fun fk => by rw [List.length_range, impl_isName_L1, if_neg (by simp)]) fu (by simpa using h)]
  unfold nameOk
  have e1 : decide (1 ≤ (s.size : Int)) = decide (1 ≤ s.size) := by simp only [decide_eq_decide]; omega
  have e2 : decide ((s.size : Int) ≤ 8) = decide (s.size ≤ 8) := by simp only [decide_eq_decide]; omega
  cases (List.range s.size).any (chrBad s) <;> simp [Out.on, e1, e2]
theorem l2Sign_eq (fu : Nat) (b : By) : spec_l2Sign fu b = some (isLet b.n || isDig b.n) := by
  unfold spec_l2Sign isLet isDig
  simp only [ge_iff_le]
  by_cases h1 : 97 ≤ b.n <;> by_cases h2 : 48 ≤ b.n <;> by_cases h3 : b.n ≤ 122 <;> by_cases h4 : b.n ≤ 57 <;> simp [h1, h2, h3, h4]
theorem l2Name_eq {fu : Nat} (s : ByteArray) (h : s.size < fu) (hn : s.size ≤ 2097152) : spec_l2Name fu s = some (nameOk s) := by
  unfold spec_l2Name
  have e1 : decide (1 ≤ (s.size : Int)) = decide (1 ≤ s.size) := by simp only [decide_eq_decide]; omega
  have e2 : decide ((s.size : Int) ≤ 8) = decide (s.size ≤ 8) := by simp only [decide_eq_decide]; omega
  simp only [l1In_eq, Option.bind_some, e1, e2]
  unfold nameOk
  by_cases hb : (decide (1 ≤ s.size) && decide (s.size ≤ 8)) = true
  · rw [hb]
    simp only [Bool.and_eq_true, decide_eq_true_eq] at hb
    have h0 : 0 < s.size := by omega
    have hs := sidx_chr h0
    simp only [Int.ofNat_zero, Int.natCast_zero] at hs
    simp only [Bool.not_true, Bool.false_eq_true, if_false, hs, Option.bind_some, Bool.and_true]
    have hl : spec_l2Name_L1 fu s fu 0 = some (if (List.range s.size).any (sgnBad s) then .ret false else .next ((List.range s.size).length : Int)) :=
      scan_all (l := List.range s.size) (G := spec_l2Name_L1 fu s) (sgnBad s) (fun i => false) (by simp; omega)
        (fun fk i hi => by
          have hi' : i < s.size := by simpa using hi
          rw [spec_l2Name_L1, if_pos (by simpa using hi'), sidx_chr hi', List.getElem_range]
          simp only [Option.bind_some, l2Sign_eq, sgnBad]
          rfl)
        (fun fk => by rw [List.length_range, spec_l2Name_L1, if_neg (by simp)]) fu (by simpa using h)
    rw [hl]
    have ha : (List.range s.size).any (chrBad s) = (!isLet (chr s 0) || (List.range s.size).any (sgnBad s)) := by
      rw [Bool.eq_iff_iff]
      simp only [List.any_eq_true, List.mem_range, Bool.or_eq_true, chrBad, sgnBad, Bool.and_eq_true, Bool.not_eq_true', beq_iff_eq, Bool.or_eq_false_iff]
      constructor
      · rintro ⟨i, hi, h1, h2⟩
        rcases h2 with h2 | h2
        · exact .inr ⟨i, hi, h1, h2⟩
        · subst h2; exact .inl h1
      · rintro (h1 | ⟨i, hi, h1, h2⟩)
        · exact ⟨0, h0, h1, .inr rfl⟩
        · exact ⟨i, hi, h1, .inl h2⟩
    rw [ha]
    unfold isLet
    have e3 : decide (chr s 0 < 97) = !decide (97 ≤ chr s 0) := by rw [← decide_not]; simp only [decide_eq_decide]; omega
    have e4 : decide (chr s 0 > 122) = !decide (chr s 0 ≤ 122) := by rw [← decide_not]; simp only [decide_eq_decide]; omega
    simp only [e3, e4]
    cases decide (97 ≤ chr s 0) <;> cases decide (chr s 0 ≤ 122) <;> cases (List.range s.size).any (sgnBad s) <;> rfl
  · rw [Bool.not_eq_true] at hb
    rw [hb]
    simp
def nm0 : ByteArray := ByteArray.empty
def seen (l : List ByteArray) (i : Nat) : Bool := (l.take i).any fun x => (gd l i nm0).toList == x.toList
theorem beq_symm' {α : Type} [BEq α] [LawfulBEq α] (a b : α) : (a == b) = (b == a) := by
  rw [Bool.eq_iff_iff]; simp only [beq_iff_eq]; exact eq_comm
theorem indexS_eq {fu : Nat} (l : List ByteArray) (v : ByteArray) (h : l.length < fu) (hn : l.length ≤ 2097152) : slices_Index_string_string fu l v = some (if l.any (fun x => v.toList == x.toList) then ((l.findIdx fun x => v.toList == x.toList : Nat) : Int) else -1) := by
  unfold slices_Index_string_string
  rw [scan_all (l := l) (G := slices_Index_string_string_L1 fu l v) (fun x => v.toList == x.toList) (fun i => (i : Int)) (by omega)
    (fun fk i hi => by rw [slices_Index_string_string_L1, if_pos (by simpa using hi), idx_in hi]; rfl)
    (fun fk => by rw [slices_Index_string_string_L1, if_neg (by simp)]) fu h]
  cases l.any (fun x => v.toList == x.toList) <;> rfl
theorem containsS_eq {fu : Nat} (l : List ByteArray) (v : ByteArray) (h : l.length < fu) (hn : l.length ≤ 2097152) : slices_Contains_string_string fu l v = some (l.any fun x => v.toList == x.toList) := by
  unfold slices_Contains_string_string
  rw [indexS_eq l v h hn]
  cases l.any (fun x => v.toList == x.toList)
  · rfl
  · simp
theorem l2Find_eq {fu : Nat} (l : List ByteArray) (v : ByteArray) (h : l.length < fu) (hn : l.length ≤ 2097152) : spec_l2Find fu l v = some (if l.any (fun x => x.toList == v.toList) then ((l.findIdx fun x => x.toList == v.toList : Nat) : Int) else -1) := by
  unfold spec_l2Find
  rw [scan_all (l := l) (G := spec_l2Find_L1 fu l v) (fun x => x.toList == v.toList) (fun i => (i : Int)) (by omega)
    (fun fk i hi => by rw [spec_l2Find_L1, if_pos (by simpa using hi), idx_in hi]; rfl)
    (fun fk => by rw [spec_l2Find_L1, if_neg (by simp)]) fu h]
  cases l.any (fun x => x.toList == v.toList) <;> rfl
theorem sub_take {α : Type} {l : List α} {i : Nat} (h : i ≤ l.length) : sub l 0 (i : Int) = some (l.take i) := by
  unfold sub
  rw [if_pos (by omega)]
  simp
theorem findIdx_self {α : Type} {l : List α} {p : α → Bool} {i : Nat} (h : i < l.length) (hp : p l[i] = true) : (l.findIdx p = i) ↔ (l.take i).any p = false := by
  rw [List.findIdx_eq h]
  constructor
  · rintro ⟨-, h2⟩
    rw [Bool.eq_false_iff]
    intro h3
    obtain ⟨x, hx, hpx⟩ := List.any_eq_true.1 h3
    obtain ⟨j, hj, rfl⟩ := List.mem_iff_getElem.1 hx
    simp only [List.length_take] at hj
    rw [List.getElem_take] at hpx
    have := h2 j (by omega)
    rw [hpx] at this
    cases this
  · intro h3
    refine ⟨hp, fun j hj => ?_⟩
    rw [Bool.eq_false_iff]
    intro h4
    rw [Bool.eq_false_iff] at h3
    refine h3 (List.any_eq_true.2 ⟨l[j], ?_, h4⟩)
    refine List.mem_iff_getElem.2 ⟨j, by simp; omega, by rw [List.getElem_take]⟩
def nodeBad (l : List ByteArray) (i : Nat) : Bool := !nameOk (gd l i nm0) || seen l i
def f0 : Fiber := ⟨0, 0, 0, 0⟩
def fibOk (m : Nat) (f : Fiber) : Bool := decide (0 ≤ f.A) && (decide (f.A < f.B) && (decide (f.B < (m : Int)) && ((decide (1 ≤ f.Length) && decide (f.Length ≤ 5000)) && (decide (0 ≤ f.Risk) && decide (f.Risk ≤ 9)))))
def fGt (f g : Fiber) : Bool := decide (g.A < f.A) || (f.A == g.A && (decide (g.B < f.B) || (f.B == g.B && (decide (g.Length < f.Length) || (f.Length == g.Length && decide (g.Risk < f.Risk))))))
def cmpI (x y : Int) : Int := if x < y then -1 else if x > y then 1 else 0
theorem compare_eq (fu : Nat) (x y : Int) : cmp_Compare_int fu x y = some (cmpI x y) := by
  unfold cmp_Compare_int cmp_isNaN_int cmpI
  have e : ∀ z : Int, (z != z) = false := fun z => by simp
  simp only [e, Option.bind_some, Bool.false_eq_true, if_false, decide_eq_true_eq]
  by_cases h : x < y
  · rw [if_pos h, if_pos h]
  · rw [if_neg h, if_neg h]
    split <;> rfl
theorem cmpI_pos (x y : Int) : 0 < cmpI x y ↔ y < x := by unfold cmpI; split <;> (try split) <;> omega
theorem cmpI_zero (x y : Int) : cmpI x y = 0 ↔ x = y := by unfold cmpI; split <;> (try split) <;> omega
def or4 (a b c d : Int) : Int := if a ≠ 0 then a else if b ≠ 0 then b else if c ≠ 0 then c else if d ≠ 0 then d else 0
theorem or_eq {fu : Nat} (a b c d : Int) (h : 4 < fu) : cmp_Or_int fu [a, b, c, d] = some (or4 a b c d) := by
  unfold cmp_Or_int
  rw [scan_all (l := [a, b, c, d]) (G := cmp_Or_int_L1 fu [a, b, c, d]) (fun e => e != 0) (fun i => gd [a, b, c, d] i 0) (by simp)
    (fun fk i hi => by rw [cmp_Or_int_L1, if_pos (by rw [decide_eq_true_eq]; omega), idx_in hi, gd_in 0 hi]; rfl)
    (fun fk => by rw [cmp_Or_int_L1, if_neg (by simp)]) fu (by simpa using h)]
  unfold or4
  have e : ∀ z : Int, (z != 0) = !decide (z = 0) := fun z => by by_cases h : z = 0 <;> simp [h]
  simp only [e]
  by_cases ha : a = 0 <;> by_cases hb : b = 0 <;> by_cases hc : c = 0 <;> by_cases hd : d = 0 <;> simp [ha, hb, hc, hd, List.findIdx_cons, gd, Out.on]
theorem compareFibers_eq {fu : Nat} (f g : Fiber) (h : 4 < fu) : ∃ r, impl_compareFibers fu f g = some r ∧ decide (r > 0) = fGt f g := by
  unfold impl_compareFibers
  simp only [compare_eq, Option.bind_some, or_eq _ _ _ _ h]
  refine ⟨_, rfl, ?_⟩
  rw [Bool.eq_iff_iff]
  simp only [fGt, decide_eq_true_eq, Bool.or_eq_true, Bool.and_eq_true, beq_iff_eq, or4]
  have a1 := cmpI_pos f.A g.A
  have a2 := cmpI_zero f.A g.A
  have b1 := cmpI_pos f.B g.B
  have b2 := cmpI_zero f.B g.B
  have c1 := cmpI_pos f.Length g.Length
  have c2 := cmpI_zero f.Length g.Length
  have d1 := cmpI_pos f.Risk g.Risk
  have d2 := cmpI_zero f.Risk g.Risk
  generalize cmpI f.A g.A = a at *
  generalize cmpI f.B g.B = b at *
  generalize cmpI f.Length g.Length = c at *
  generalize cmpI f.Risk g.Risk = d at *
  split <;> (try split) <;> (try split) <;> (try split) <;> constructor <;> intro h <;> simp only [decide_eq_true_eq] at * <;> omega
def bef (f g : Fiber) : Int := if f.A ≠ g.A then w64 (f.A - g.A) else if f.B ≠ g.B then w64 (f.B - g.B) else if f.Length ≠ g.Length then w64 (f.Length - g.Length) else w64 (f.Risk - g.Risk)
theorem l2Before_eq (fu : Nat) (f g : Fiber) : spec_l2Before fu f g = some (bef f g) := by
  unfold spec_l2Before bef
  by_cases h1 : f.A = g.A
  · by_cases h2 : f.B = g.B
    · by_cases h3 : f.Length = g.Length <;> simp [h1, h2, h3]
    · simp [h1, h2]
  · simp [h1]
theorem bef_gt {m : Nat} {f g : Fiber} (hm : m ≤ 8) (hf : fibOk m f = true) (hg : fibOk m g = true) : decide (bef f g > 0) = fGt f g := by
  simp only [fibOk, Bool.and_eq_true, decide_eq_true_eq] at hf hg
  rw [Bool.eq_iff_iff]
  simp only [fGt, decide_eq_true_eq, Bool.or_eq_true, Bool.and_eq_true, beq_iff_eq]
  unfold bef
  have e1 : w64 (f.A - g.A) = f.A - g.A := w64_in (by omega) (by omega)
  have e2 : w64 (f.B - g.B) = f.B - g.B := w64_in (by omega) (by omega)
  have e3 : w64 (f.Length - g.Length) = f.Length - g.Length := w64_in (by omega) (by omega)
  have e4 : w64 (f.Risk - g.Risk) = f.Risk - g.Risk := w64_in (by omega) (by omega)
  rw [e1, e2, e3, e4]
  clear e1 e2 e3 e4
  split
  · omega
  · split
    · omega
    · split <;> omega
theorem l2Fiber_eq {fu m : Nat} (f : Fiber) (hm : m ≤ 8) : spec_l2Fiber fu f (m : Int) = some (fibOk m f) := by
  unfold spec_l2Fiber
  simp only [l1In_eq, Option.bind_some]
  have e0 : w64 ((m : Int) - 1) = (m : Int) - 1 := w64_in (by omega) (by omega)
  rw [e0]
  unfold fibOk
  by_cases h1 : 0 ≤ f.A
  · by_cases h2 : f.A ≤ (m : Int) - 1
    · have e1 : w64 (f.A + 1) = f.A + 1 := w64_in (by omega) (by omega)
      rw [e1]
      have e2 : decide (f.A + 1 ≤ f.B) = decide (f.A < f.B) := by simp only [decide_eq_decide]; omega
      have e3 : decide (f.B ≤ (m : Int) - 1) = decide (f.B < (m : Int)) := by simp only [decide_eq_decide]; omega
      rw [e2, e3]
      simp only [h1, h2, decide_true, Bool.and_true, if_true, Bool.true_and]
      cases decide (f.A < f.B) <;> cases decide (f.B < (m : Int)) <;> cases decide (1 ≤ f.Length) <;> cases decide (f.Length ≤ 5000) <;> cases decide (0 ≤ f.Risk) <;> cases decide (f.Risk ≤ 9) <;> rfl
    · have : (decide (f.A < f.B) && decide (f.B < (m : Int))) = false := by
        rw [Bool.eq_false_iff]; simp only [ne_eq, Bool.and_eq_true, decide_eq_true_eq]; omega
      rw [← Bool.and_assoc (decide (f.A < f.B)), this]
      simp [h1, h2]
  · simp [h1]
def fibBad (m : Nat) (l : List Fiber) (i : Nat) : Bool := !fibOk m (gd l i f0) || (decide (0 < i) && fGt (gd l (i - 1) f0) (gd l i f0))
def fibBadS (m : Nat) (l : List Fiber) (i : Nat) : Bool := !fibOk m (gd l i f0) || (decide (0 < i) && decide (bef (gd l (i - 1) f0) (gd l i f0) > 0))
theorem fibBad_eq {m : Nat} (l : List Fiber) (hm : m ≤ 8) : (List.range l.length).any (fibBadS m l) = (List.range l.length).any (fibBad m l) := by
  by_cases hv : ∃ i, i < l.length ∧ fibOk m (gd l i f0) = false
  · obtain ⟨i, hi, hb⟩ := hv
    have h1 : (List.range l.length).any (fibBadS m l) = true := List.any_eq_true.2 ⟨i, List.mem_range.2 hi, by simp [fibBadS, hb]⟩
    have h2 : (List.range l.length).any (fibBad m l) = true := List.any_eq_true.2 ⟨i, List.mem_range.2 hi, by simp [fibBad, hb]⟩
    rw [h1, h2]
  · have hv' : ∀ i, i < l.length → fibOk m (gd l i f0) = true := fun i hi => by
      cases h : fibOk m (gd l i f0)
      · exact absurd ⟨i, hi, h⟩ hv
      · rfl
    refine any_same fun i hi => ?_
    have hi' := List.mem_range.1 hi
    unfold fibBadS fibBad
    by_cases h0 : 0 < i
    · rw [bef_gt hm (hv' (i - 1) (by omega)) (hv' i hi')]
    · simp [h0]
def netOk (n : Network) : Bool := (decide (2 ≤ n.Nodes.length) && decide (n.Nodes.length ≤ 8)) && (decide (n.Fibers.length ≤ 14) && (!((List.range n.Nodes.length).any (nodeBad n.Nodes)) && !((List.range n.Fibers.length).any (fibBad n.Nodes.length n.Fibers))))
def NetB (n : Network) : Prop := (n.Nodes.length ≤ 2097152 ∧ ∀ e ∈ n.Nodes, e.size ≤ 2097152) ∧ n.Fibers.length ≤ 2097152
theorem gd_mem {α : Type} {l : List α} {i : Nat} (d : α) (h : i < l.length) : gd l i d ∈ l := by rw [gd_in d h]; exact List.getElem_mem _
theorem implNet_eq {fu : Nat} (hfu : 2097153 ≤ fu) (n : Network) (hB : NetB n) : impl_IsValidNetwork fu n = some (netOk n) := by
  obtain ⟨⟨hl, hs⟩, hl2⟩ := hB
  unfold impl_IsValidNetwork
  rw [scan_all (l := List.range n.Nodes.length) (G := impl_IsValidNetwork_L1 fu n) (nodeBad n.Nodes) (fun i => false) (by simp; omega)
    (fun fk i hi => by
      have hi' : i < n.Nodes.length := by simpa using hi
      have hz := hs _ (gd_mem nm0 hi')
      rw [impl_IsValidNetwork_L1, if_pos (by simpa using hi'), idx_gd nm0 hi', List.getElem_range]
      simp only [Option.bind_some, isName_eq _ (show (gd n.Nodes i nm0).size < fu by omega) hz, nodeBad, seen]
      rcases Bool.eq_false_or_eq_true (nameOk (gd n.Nodes i nm0)) with h1 | h1
      · rw [sub_take (by omega)]
        simp only [h1, Bool.not_true, Bool.false_eq_true, if_false, Option.bind_some, containsS_eq _ _ (show (n.Nodes.take i).length < fu by simp; omega) (by simp; omega), Bool.false_or]
      · simp [h1])
    (fun fk => by rw [List.length_range, impl_IsValidNetwork_L1, if_neg (by simp)]) fu (by simp; omega)]
  rw [scan_all (l := List.range n.Fibers.length) (G := impl_IsValidNetwork_L2 fu n) (fibBad n.Nodes.length n.Fibers) (fun i => false) (by simp; omega)
    (fun fk i hi => by
      have hi' : i < n.Fibers.length := by simpa using hi
      rw [impl_IsValidNetwork_L2, if_pos (by simpa using hi'), idx_gd f0 hi', List.getElem_range]
      simp only [Option.bind_some, within_eq, fibBad, fibOk]
      obtain ⟨x, hx⟩ : ∃ x, x = gd n.Fibers i f0 := ⟨_, rfl⟩
      simp only [← hx]
      have a1 : decide (x.A < 0) = !decide (0 ≤ x.A) := by rw [← decide_not]; simp only [decide_eq_decide]; omega
      have a2 : decide (x.A ≥ x.B) = !decide (x.A < x.B) := by rw [← decide_not]; simp only [decide_eq_decide]; omega
      have a3 : decide (x.B ≥ (n.Nodes.length : Int)) = !decide (x.B < (n.Nodes.length : Int)) := by rw [← decide_not]; simp only [decide_eq_decide]; omega
      simp only [a1, a2, a3]
      by_cases b1 : (decide (0 ≤ x.A)) = false
      · simp [b1]
      rw [Bool.not_eq_false] at b1
      by_cases b2 : (decide (x.A < x.B)) = false
      · simp [b1, b2]
      rw [Bool.not_eq_false] at b2
      by_cases b3 : (decide (x.B < (n.Nodes.length : Int))) = false
      · simp [b1, b2, b3]
      rw [Bool.not_eq_false] at b3
      by_cases b4 : (decide (1 ≤ x.Length) && decide (x.Length ≤ 5000)) = false
      · simp only [b1, b2, b3, b4]; simp
      rw [Bool.not_eq_false] at b4
      by_cases b5 : (decide (0 ≤ x.Risk) && decide (x.Risk ≤ 9)) = false
      · simp only [b1, b2, b3, b4, b5]; simp
      rw [Bool.not_eq_false] at b5
      simp only [b1, b2, b3, b4, b5]
      by_cases h0 : 0 < i
      · rw [w64_dec h0 (by omega), idx_gd f0 (show i - 1 < n.Fibers.length by omega)]
        obtain ⟨r, h1, h2⟩ := compareFibers_eq (fu := fu) (gd n.Fibers (i - 1) f0) x (by omega)
        have h0' : ((i : Int) > 0) := by omega
        simp [h0, h1, h2, h0']
      · have h0' : ¬ ((i : Int) > 0) := by omega
        simp [h0, h0'])
    (fun fk => by rw [List.length_range, impl_IsValidNetwork_L2, if_neg (by simp)]) fu (by simp; omega)]
  unfold netOk
  have e1 : decide (2 ≤ (n.Nodes.length : Int)) = decide (2 ≤ n.Nodes.length) := by simp only [decide_eq_decide]; omega
  have e2 : decide ((n.Nodes.length : Int) ≤ 8) = decide (n.Nodes.length ≤ 8) := by simp only [decide_eq_decide]; omega
  have e3 : decide ((n.Fibers.length : Int) ≤ 14) = decide (n.Fibers.length ≤ 14) := by simp only [decide_eq_decide]; omega
  simp only [within_eq, e1, e2, e3]
  cases (List.range n.Nodes.length).any (nodeBad n.Nodes) <;> cases (List.range n.Fibers.length).any (fibBad n.Nodes.length n.Fibers) <;> cases decide (2 ≤ n.Nodes.length) <;> cases decide (n.Nodes.length ≤ 8) <;> cases decide (n.Fibers.length ≤ 14) <;> rfl
theorem specNet_eq {fu : Nat} (hfu : 2097153 ≤ fu) (n : Network) (hB : NetB n) : spec_l2Good fu n = some (netOk n) := by
  obtain ⟨⟨hl, hs⟩, hl2⟩ := hB
  unfold spec_l2Good netOk
  have e1 : decide (2 ≤ (n.Nodes.length : Int)) = decide (2 ≤ n.Nodes.length) := by simp only [decide_eq_decide]; omega
  have e2 : decide ((n.Nodes.length : Int) ≤ 8) = decide (n.Nodes.length ≤ 8) := by simp only [decide_eq_decide]; omega
  have e3 : decide ((n.Fibers.length : Int) > 14) = !decide (n.Fibers.length ≤ 14) := by rw [← decide_not]; simp only [decide_eq_decide]; omega
  simp only [l1In_eq, e1, e2, e3, Option.bind_some]
  cases hb : (decide (2 ≤ n.Nodes.length) && decide (n.Nodes.length ≤ 8))
  · rfl
  cases hc : decide (n.Fibers.length ≤ 14)
  · rfl
  simp only [Bool.and_eq_true, decide_eq_true_eq] at hb hc
  rw [scan_all (l := List.range n.Nodes.length) (G := spec_l2Good_L1 fu n) (nodeBad n.Nodes) (fun i => false) (by simp; omega)
    (fun fk i hi => by
      have hi' : i < n.Nodes.length := by simpa using hi
      have hz := hs _ (gd_mem nm0 hi')
      rw [spec_l2Good_L1, if_pos (by simpa using hi'), idx_gd nm0 hi', List.getElem_range]
      simp only [Option.bind_some, l2Name_eq _ (show (gd n.Nodes i nm0).size < fu by omega) hz, nodeBad, seen]
      by_cases h1 : (nameOk (gd n.Nodes i nm0)) = false
      · simp [h1]
      rw [Bool.not_eq_false] at h1
      · have hp : (fun x : ByteArray => x.toList == (gd n.Nodes i nm0).toList) n.Nodes[i] = true := by simp [gd_in nm0 hi']
        have ha : n.Nodes.any (fun x => x.toList == (gd n.Nodes i nm0).toList) = true := List.any_eq_true.2 ⟨_, List.getElem_mem hi', hp⟩
        have hfi := findIdx_self (p := fun x : ByteArray => x.toList == (gd n.Nodes i nm0).toList) hi' hp
        have hsy : (n.Nodes.take i).any (fun x => (gd n.Nodes i nm0).toList == x.toList) = (n.Nodes.take i).any (fun x => x.toList == (gd n.Nodes i nm0).toList) := any_same fun x _ => beq_symm' _ _
        simp only [h1, Bool.not_true, Bool.false_eq_true, if_false, Option.bind_some, l2Find_eq _ _ (show n.Nodes.length < fu by omega) hl, ha, if_true, Bool.false_or, hsy]
        have he : (((n.Nodes.findIdx fun x => x.toList == (gd n.Nodes i nm0).toList : Nat) : Int) != (i : Int)) = (n.Nodes.take i).any (fun x => x.toList == (gd n.Nodes i nm0).toList) := by
          rw [Bool.eq_iff_iff]
          simp only [bne_iff_ne, ne_eq, Int.natCast_inj, hfi, Bool.not_eq_false]
        rw [he])
    (fun fk => by rw [List.length_range, spec_l2Good_L1, if_neg (by simp)]) fu (by simp; omega)]
  rw [scan_all (l := List.range n.Fibers.length) (G := spec_l2Good_L2 fu n) (fibBadS n.Nodes.length n.Fibers) (fun i => false) (by simp; omega)
    (fun fk i hi => by
      have hi' : i < n.Fibers.length := by simpa using hi
      rw [spec_l2Good_L2, if_pos (by simpa using hi'), idx_gd f0 hi', List.getElem_range]
      simp only [Option.bind_some, l2Fiber_eq _ hb.2, fibBadS]
      by_cases h1 : (fibOk n.Nodes.length (gd n.Fibers i f0)) = false
      · simp [h1]
      rw [Bool.not_eq_false] at h1
      simp only [h1]
      by_cases h0 : 0 < i
      · rw [w64_dec h0 (by omega), idx_gd f0 (show i - 1 < n.Fibers.length by omega)]
        have h0' : ((i : Int) > 0) := by omega
        simp [h0, l2Before_eq, h0']
      · have h0' : ¬ ((i : Int) > 0) := by omega
        simp [h0, h0'])
    (fun fk => by rw [List.length_range, spec_l2Good_L2, if_neg (by simp)]) fu (by simp; omega), fibBad_eq _ hb.2]
  cases (List.range n.Nodes.length).any (nodeBad n.Nodes) <;> cases (List.range n.Fibers.length).any (fibBad n.Nodes.length n.Fibers) <;> rfl
structure NetF (n : Network) : Prop where
  lo : 2 ≤ n.Nodes.length
  hi : n.Nodes.length ≤ 8
  fib : n.Fibers.length ≤ 14
  each : ∀ f ∈ n.Fibers, 0 ≤ f.A ∧ f.A < f.B ∧ f.B < (n.Nodes.length : Int) ∧ 1 ≤ f.Length ∧ f.Length ≤ 5000 ∧ 0 ≤ f.Risk ∧ f.Risk ≤ 9
theorem netF {n : Network} (h : netOk n = true) : NetF n := by
  unfold netOk at h
  simp only [Bool.and_eq_true, decide_eq_true_eq, Bool.not_eq_true'] at h
  obtain ⟨⟨h1, h2⟩, h3, h4, h5⟩ := h
  refine ⟨h1, h2, h3, fun f hf => ?_⟩
  obtain ⟨i, hi, rfl⟩ := List.mem_iff_getElem.1 hf
  rw [Bool.eq_false_iff] at h5
  have h6 : fibBad n.Nodes.length n.Fibers i = false := by
    rw [Bool.eq_false_iff]
    intro h7
    exact h5 (List.any_eq_true.2 ⟨i, List.mem_range.2 hi, h7⟩)
  unfold fibBad at h6
  rw [Bool.or_eq_false_iff] at h6
  have h8 := h6.1
  rw [gd_in f0 hi] at h8
  simp only [Bool.not_eq_false', fibOk, Bool.and_eq_true, decide_eq_true_eq] at h8
  omega
end AT

namespace AT
theorem app_ok {α : Type} {l m : List α} (h : l.length + m.length ≤ 1099511627776) : app l m = some (l ++ m) := by unfold app; rw [if_pos h]
theorem indexI_eq {fu : Nat} (l : List Int) (v : Int) (h : l.length < fu) (hn : l.length ≤ 2097152) : slices_Index_int_int fu l v = some (if l.any (fun x => x == v) then ((l.findIdx fun x => x == v : Nat) : Int) else -1) := by
  unfold slices_Index_int_int
  rw [scan_all (l := l) (G := slices_Index_int_int_L1 fu l v) (fun x => x == v) (fun i => (i : Int)) (by omega)
    (fun fk i hi => by rw [slices_Index_int_int_L1, if_pos (by simpa using hi), idx_in hi, Option.bind_some, beq_symm' v])
    (fun fk => by rw [slices_Index_int_int_L1, if_neg (by simp)]) fu h]
  cases l.any (fun x => x == v) <;> rfl
theorem containsI_eq {fu : Nat} (l : List Int) (v : Int) (h : l.length < fu) (hn : l.length ≤ 2097152) : slices_Contains_int_int fu l v = some (l.any fun x => x == v) := by
  unfold slices_Contains_int_int
  rw [indexI_eq l v h hn]
  cases l.any (fun x => x == v)
  · rfl
  · simp
theorem l1Has_eq {fu : Nat} (l : List Int) (v : Int) (h : l.length < fu) (hn : l.length ≤ 2097152) : spec_l1Has fu l v = some (l.any fun x => x == v) := by
  unfold spec_l1Has
  rw [scan_all (l := l) (G := spec_l1Has_L1 fu l v) (fun x => x == v) (fun i => true) (by omega)
    (fun fk i hi => by rw [spec_l1Has_L1, if_pos (by simpa using hi), idx_in hi, Option.bind_some])
    (fun fk => by rw [spec_l1Has_L1, if_neg (by simp)]) fu h]
  cases l.any (fun x => x == v) <;> rfl
def oth (f : Fiber) (v : Int) : Int := if v = f.A then f.B else if v = f.B then f.A else -1
theorem oth_if {R : Type} (f : Fiber) (v : Int) (k : Int → R) : (if v == f.A then k f.B else if v == f.B then k f.A else k (-1)) = k (oth f v) := by
  unfold oth
  by_cases h1 : v = f.A
  · rw [if_pos (beq_iff_eq.2 h1), if_pos h1]
  · rw [if_neg (by simpa using h1), if_neg h1]
    by_cases h2 : v = f.B
    · rw [if_pos (beq_iff_eq.2 h2), if_pos h2]
    · rw [if_neg (by simpa using h2), if_neg h2]
theorem otherEnd_eq (fu : Nat) (f : Fiber) (v : Int) : impl_otherEnd fu f v = some (oth f v) := by
  exact oth_if f v some
theorem l2Other_eq (fu : Nat) (n : Network) (i : Nat) (v : Int) (h : i < n.Fibers.length) : spec_l2Other fu n (i : Int) v = some (oth (gd n.Fibers i f0) v) := by
  unfold spec_l2Other
  rw [idx_gd f0 h]
  exact oth_if _ v some
def rwalk (F : List Fiber) : List Int → List Int → Int → Option (List Int)
  | [], out, _ => some out
  | i :: r, out, v => if 0 ≤ i ∧ i < (F.length : Int) then (if oth (gd F i.toNat f0) v < 0 ∨ (out.any fun x => x == oth (gd F i.toNat f0) v) = true then none else rwalk F r (out ++ [oth (gd F i.toNat f0) v]) (oth (gd F i.toNat f0) v)) else none
def rnodes (n : Network) (r : Route) : Option (List Int) := if (0 ≤ r.Start ∧ r.Start < (n.Nodes.length : Int)) ∧ r.Fibers ≠ [] then rwalk n.Fibers r.Fibers [r.Start] r.Start else none
def gl (l : List Int) : Int := gd l (l.length - 1) 0
theorem gl_snoc (l : List Int) (x : Int) : gl (l ++ [x]) = x := by unfold gl gd; simp
theorem rwalk_len {F : List Fiber} : ∀ {fs out : List Int} {v : Int} {o : List Int}, rwalk F fs out v = some o → o.length = out.length + fs.length
  | [], out, v, o, h => by simp only [rwalk, Option.some.injEq] at h; subst h; simp
  | i :: r, out, v, o, h => by
    unfold rwalk at h
    split at h
    · split at h
      · cases h
      · have := rwalk_len h
        simp only [List.length_append, List.length_cons, List.length_nil] at this ⊢
        omega
    · cases h
theorem rwalk_in {F : List Fiber} : ∀ {fs out : List Int} {v : Int} {o : List Int}, rwalk F fs out v = some o → ∀ i ∈ fs, 0 ≤ i ∧ i < (F.length : Int)
  | [], out, v, o, h => by simp
  | i :: r, out, v, o, h => by
    unfold rwalk at h
    split at h
    · rename_i hi
      split at h
      · cases h
      · intro j hj
        rcases List.mem_cons.1 hj with rfl | hj
        · exact hi
        · exact rwalk_in h j hj
    · cases h
theorem visited_loop {fu : Nat} (hfu : 2097153 ≤ fu) (n : Network) (r : Route) (hn : n.Fibers.length ≤ 2097152) (hr : r.Fibers.length ≤ 2097152) : ∀ (fk i : Nat) (out : List Int) (v : Int), i ≤ r.Fibers.length → r.Fibers.length - i < fk → out.length = i + 1 →
    ∃ z, impl_visited_L1 fu n r fk out v i = some (match rwalk n.Fibers (r.Fibers.drop i) out v with | some o => .next (o, z) | none => .ret ([], false)) := by
  intro fk
  induction fk with
  | zero => intro i _ _ _ h; omega
  | succ fk ih =>
    intro i out v hi hk ho
    rw [impl_visited_L1]
    by_cases h : i < r.Fibers.length
    · rw [if_pos (by simpa using h), idx_in h, ← List.getElem_cons_drop h, rwalk]
      obtain ⟨e, he⟩ : ∃ e, e = r.Fibers[i] := ⟨_, rfl⟩
      simp only [← he, Option.bind_some, within_eq]
      rw [w64_in (by omega) (by omega)]
      by_cases hb : 0 ≤ e ∧ e < (n.Fibers.length : Int)
      · rw [if_pos hb]
        have hb' : (decide (0 ≤ e) && decide (e ≤ (n.Fibers.length : Int) - 1)) = true := by simp; omega
        have hx : idx n.Fibers e = some (gd n.Fibers e.toNat f0) := by
          have := idx_gd (l := n.Fibers) (i := e.toNat) f0 (by omega)
          rwa [Int.toNat_of_nonneg hb.1] at this
        simp only [hb', Bool.not_true, Bool.false_eq_true, if_false, hx, Option.bind_some, otherEnd_eq]
        obtain ⟨y, hy⟩ : ∃ y, y = oth (gd n.Fibers e.toNat f0) v := ⟨_, rfl⟩
        simp only [← hy, containsI_eq out y (show out.length < fu by omega) (by omega)]
        by_cases hn : y < 0 ∨ (out.any fun x => x == y) = true
        · rw [if_pos hn]
          refine ⟨(0, 0), ?_⟩
          rcases hn with h1 | h1
          · simp [h1]
          · by_cases h2 : y < 0 <;> simp [h1, h2]
        · rw [if_neg hn]
          have h1 : ¬ y < 0 := fun h => hn (.inl h)
          have h2 : (out.any fun x => x == y) = false := by rw [Bool.eq_false_iff]; exact fun h => hn (.inr h)
          simp only [h1, decide_false, Bool.false_eq_true, if_false, h2, Option.bind_some]
          rw [app_ok (by simp; omega), Option.bind_some, w64_inc h (by omega)]
          exact ih (i + 1) _ _ h (by omega) (by simp; omega)
      · rw [if_neg hb]
        have hb' : (decide (0 ≤ e) && decide (e ≤ (n.Fibers.length : Int) - 1)) = false := by rw [Bool.eq_false_iff]; simp; omega
        exact ⟨(0, 0), by simp [hb']⟩
    · obtain rfl : i = r.Fibers.length := by omega
      rw [if_neg (by simp), List.drop_length]
      exact ⟨_, rfl⟩
theorem visited_eq {fu : Nat} (hfu : 2097153 ≤ fu) (n : Network) (r : Route) (hn : n.Fibers.length ≤ 2097152) (hm : n.Nodes.length ≤ 2097152) (hr : r.Fibers.length ≤ 2097152) : impl_visited fu n r = some (match rnodes n r with | some o => (o, true) | none => ([], false)) := by
  unfold impl_visited
  simp only [within_eq, Option.bind_some]
  rw [w64_in (by omega) (by omega)]
  by_cases hs : 0 ≤ r.Start ∧ r.Start < (n.Nodes.length : Int)
  · have hb' : (decide (0 ≤ r.Start) && decide (r.Start ≤ (n.Nodes.length : Int) - 1)) = true := by simp; omega
    by_cases he : r.Fibers = []
    · have er : rnodes n r = none := by unfold rnodes; rw [if_neg fun h => h.2 he]
      simp [hb', he, er]
    · have er : rnodes n r = rwalk n.Fibers r.Fibers [r.Start] r.Start := by unfold rnodes; rw [if_pos ⟨hs, he⟩]
      have he' : ((r.Fibers.length : Int) == 0) = false := by
        rw [beq_eq_false_iff_ne]
        have := List.length_pos_iff.2 he
        omega
      obtain ⟨z, hz⟩ := visited_loop hfu n r hn hr fu 0 [r.Start] r.Start (by omega) (by omega) rfl
      rw [List.drop_zero, show ((0 : Nat) : Int) = 0 from rfl] at hz
      rw [er]
      simp only [hb', Bool.not_true, Bool.false_eq_true, if_false, he', Option.bind_some, hz]
      cases rwalk n.Fibers r.Fibers [r.Start] r.Start <;> rfl
  · have hb' : (decide (0 ≤ r.Start) && decide (r.Start ≤ (n.Nodes.length : Int) - 1)) = false := by rw [Bool.eq_false_iff]; simp; omega
    have er : rnodes n r = none := by unfold rnodes; rw [if_neg fun h => hs h.1]
    simp [hb', er]
theorem walk_loop {fu : Nat} (hfu : 2097153 ≤ fu) (n : Network) (r : Route) (hn : n.Fibers.length ≤ 2097152) (hr : r.Fibers.length ≤ 2097152) : ∀ (fk i : Nat) (out : List Int), i ≤ r.Fibers.length → r.Fibers.length - i < fk → out.length = i + 1 →
    ∃ z o', spec_l4Walk_L1 fu n r fk out i = some (match rwalk n.Fibers (r.Fibers.drop i) out (gl out) with | some o => .next (o, z) | none => .ret (o', false)) := by
  intro fk
  induction fk with
  | zero => intro i _ _ h; omega
  | succ fk ih =>
    intro i out hi hk ho
    rw [spec_l4Walk_L1]
    by_cases h : i < r.Fibers.length
    · rw [if_pos (by simpa using h), idx_in h, ← List.getElem_cons_drop h, rwalk]
      obtain ⟨e, he⟩ : ∃ e, e = r.Fibers[i] := ⟨_, rfl⟩
      have hlast : idx out (w64 ((out.length : Int) - 1)) = some (gl out) := by
        rw [w64_dec (by omega) (by omega), idx_gd 0 (by omega)]; rfl
      simp only [← he, Option.bind_some, l1In_eq, hlast]
      rw [w64_in (by omega) (by omega)]
      by_cases hb : 0 ≤ e ∧ e < (n.Fibers.length : Int)
      · rw [if_pos hb]
        have hb' : (decide (0 ≤ e) && decide (e ≤ (n.Fibers.length : Int) - 1)) = true := by simp; omega
        have hx : spec_l2Other fu n e (gl out) = some (oth (gd n.Fibers e.toNat f0) (gl out)) := by
          have := l2Other_eq fu n e.toNat (gl out) (by omega)
          rwa [Int.toNat_of_nonneg hb.1] at this
        simp only [hb', Bool.not_true, Bool.false_eq_true, if_false, hx, Option.bind_some]
        obtain ⟨y, hy⟩ : ∃ y, y = oth (gd n.Fibers e.toNat f0) (gl out) := ⟨_, rfl⟩
        simp only [← hy, l1Has_eq out y (show out.length < fu by omega) (by omega)]
        by_cases hn : y < 0 ∨ (out.any fun x => x == y) = true
        · rw [if_pos hn]
          refine ⟨0, out, ?_⟩
          rcases hn with h1 | h1
          · simp [h1]
          · by_cases h2 : y < 0 <;> simp [h1, h2]
        · rw [if_neg hn]
          have h1 : ¬ y < 0 := fun h => hn (.inl h)
          have h2 : (out.any fun x => x == y) = false := by rw [Bool.eq_false_iff]; exact fun h => hn (.inr h)
          simp only [h1, decide_false, Bool.false_eq_true, if_false, h2, Option.bind_some]
          rw [app_ok (by simp; omega), Option.bind_some, w64_inc h (by omega)]
          have := ih (i + 1) (out ++ [y]) h (by omega) (by simp; omega)
          rwa [gl_snoc] at this
      · rw [if_neg hb]
        have hb' : (decide (0 ≤ e) && decide (e ≤ (n.Fibers.length : Int) - 1)) = false := by rw [Bool.eq_false_iff]; simp; omega
        exact ⟨0, out, by simp [hb']⟩
    · obtain rfl : i = r.Fibers.length := by omega
      rw [if_neg (by simp), List.drop_length]
      exact ⟨_, [], rfl⟩
theorem walk_eq {fu : Nat} (hfu : 2097153 ≤ fu) (n : Network) (r : Route) (hn : n.Fibers.length ≤ 2097152) (hm : n.Nodes.length ≤ 2097152) (hr : r.Fibers.length ≤ 2097152) : ∃ o', spec_l4Walk fu n r = some (match rnodes n r with | some o => (o, true) | none => (o', false)) := by
  unfold spec_l4Walk
  simp only [l1In_eq, Option.bind_some]
  rw [w64_in (by omega) (by omega)]
  by_cases hs : 0 ≤ r.Start ∧ r.Start < (n.Nodes.length : Int)
  · have hb' : (decide (0 ≤ r.Start) && decide (r.Start ≤ (n.Nodes.length : Int) - 1)) = true := by simp; omega
    by_cases he : r.Fibers = []
    · have er : rnodes n r = none := by unfold rnodes; rw [if_neg fun h => h.2 he]
      exact ⟨[r.Start], by simp [hb', he, er]⟩
    · have er : rnodes n r = rwalk n.Fibers r.Fibers [r.Start] r.Start := by unfold rnodes; rw [if_pos ⟨hs, he⟩]
      have he' : ((r.Fibers.length : Int) == 0) = false := by
        rw [beq_eq_false_iff_ne]
        have := List.length_pos_iff.2 he
        omega
      obtain ⟨z, o', hz⟩ := walk_loop hfu n r hn hr fu 0 [r.Start] (by omega) (by omega) rfl
      rw [List.drop_zero, show ((0 : Nat) : Int) = 0 from rfl, show gl [r.Start] = r.Start from rfl] at hz
      refine ⟨o', ?_⟩
      rw [er]
      simp only [hb', Bool.not_true, Bool.false_eq_true, if_false, he', Option.bind_some, hz]
      cases rwalk n.Fibers r.Fibers [r.Start] r.Start <;> rfl
  · have hb' : (decide (0 ≤ r.Start) && decide (r.Start ≤ (n.Nodes.length : Int) - 1)) = false := by rw [Bool.eq_false_iff]; simp; omega
    refine ⟨[r.Start], ?_⟩
    have er : rnodes n r = none := by unfold rnodes; rw [if_neg fun h => hs h.1]
    simp [hb', er]
theorem l4Good_eq {fu : Nat} (hfu : 2097153 ≤ fu) (n : Network) (r : Route) (hB : NetB n) (hr : r.Fibers.length ≤ 2097152) : spec_l4Good fu n r = some (netOk n && (rnodes n r).isSome) := by
  unfold spec_l4Good
  rw [specNet_eq hfu n hB, Option.bind_some]
  obtain ⟨o', h⟩ := walk_eq hfu n r hB.2 hB.1.1 hr
  rw [h]
  cases netOk n
  · rfl
  · cases rnodes n r <;> rfl
theorem rnodes_len {n : Network} {r : Route} {o : List Int} (h : rnodes n r = some o) : o.length = r.Fibers.length + 1 := by
  unfold rnodes at h
  split at h
  · have := rwalk_len h
    simp only [List.length_cons, List.length_nil] at this
    omega
  · cases h
theorem rnodes_in {n : Network} {r : Route} {o : List Int} (h : rnodes n r = some o) : ∀ i ∈ r.Fibers, 0 ≤ i ∧ i < (n.Fibers.length : Int) := by
  unfold rnodes at h
  split at h
  · exact rwalk_in h
  · cases h
theorem fib_at {n : Network} {r : Route} {o : List Int} (h : rnodes n r = some o) {i : Nat} (hi : i < r.Fibers.length) : idx n.Fibers r.Fibers[i] = some (gd n.Fibers r.Fibers[i].toNat f0) ∧ gd n.Fibers r.Fibers[i].toNat f0 ∈ n.Fibers := by
  obtain ⟨h0, h1⟩ := rnodes_in h _ (List.getElem_mem hi)
  have := idx_gd (l := n.Fibers) (i := r.Fibers[i].toNat) f0 (by omega)
  rw [Int.toNat_of_nonneg h0] at this
  exact ⟨this, gd_mem f0 (by omega)⟩
theorem short_of : ∀ (m : Nat) (l : List Int), l.Nodup → (∀ x ∈ l, 0 ≤ x ∧ x < (m : Int)) → l.length ≤ m
  | 0, l, _, h => by
    cases l with
    | nil => simp
    | cons x l => have := h x (by simp); omega
  | m + 1, l, hn, h => by
    have h1 := short_of m (l.erase (m : Int)) (hn.erase _) fun x hx => by
      have hx1 := List.mem_of_mem_erase hx
      have := h x hx1
      refine ⟨this.1, ?_⟩
      have hne : x ≠ (m : Int) := fun e => by
        subst e
        exact (hn.not_mem_erase) hx
      omega
    rw [List.length_erase] at h1
    split at h1 <;> omega
theorem oth_mem {f : Fiber} {v : Int} (h : 0 ≤ oth f v) : (v = f.A ∧ oth f v = f.B) ∨ (v = f.B ∧ oth f v = f.A) := by
  unfold oth at h ⊢
  split at h
  · rename_i h1; rw [if_pos h1]; exact .inl ⟨h1, rfl⟩
  · rename_i h1
    rw [if_neg h1]
    split at h
    · rename_i h2; rw [if_pos h2]; exact .inr ⟨h2, rfl⟩
    · omega
theorem rwalk_all {F : List Fiber} (P : Int → Prop) (hF : ∀ f ∈ F, P f.A ∧ P f.B) : ∀ {fs out : List Int} {v : Int} {o : List Int} (U : List Int), rwalk F fs out v = some o → out.Nodup → (∀ x ∈ out, P x) → v ∈ out → (∀ i ∈ U, (gd F i.toNat f0).A ∈ out ∧ (gd F i.toNat f0).B ∈ out) →
    o.Nodup ∧ (∀ x ∈ o, P x) ∧ fs.Nodup ∧ ∀ i ∈ fs, i ∉ U
  | [], out, v, o, U, h, h1, h2, h3, h4 => by
    simp only [rwalk, Option.some.injEq] at h
    subst h
    exact ⟨h1, h2, .nil, by simp⟩
  | i :: r, out, v, o, U, h, h1, h2, h3, h4 => by
    unfold rwalk at h
    split at h
    case isFalse => cases h
    rename_i hi
    split at h
    case isTrue => cases h
    rename_i hc
    obtain ⟨y, hy⟩ : ∃ y, y = oth (gd F i.toNat f0) v := ⟨_, rfl⟩
    rw [← hy] at h hc
    have hy0 : 0 ≤ y := by
      rcases Classical.em (y < 0) with h' | h'
      · exact absurd (.inl h') hc
      · omega
    have hny : y ∉ out := fun hm => hc (.inr (List.any_eq_true.2 ⟨y, hm, by simp⟩))
    have hfm : gd F i.toNat f0 ∈ F := gd_mem f0 (by omega)
    have hm := oth_mem (f := gd F i.toNat f0) (v := v) (by omega)
    rw [← hy] at hm
    have hPy : P y := by
      rcases hm with ⟨_, e⟩ | ⟨_, e⟩ <;> rw [e]
      · exact (hF _ hfm).2
      · exact (hF _ hfm).1
    have hiU : i ∉ U := fun hu => by
      have := h4 i hu
      rcases hm with ⟨_, e⟩ | ⟨_, e⟩ <;> rw [e] at hny
      · exact hny this.2
      · exact hny this.1
    obtain ⟨g1, g2, g3, g4⟩ := rwalk_all P hF (i :: U) h
      (List.nodup_append.2 ⟨h1, by simp, fun a ha b hb => by rw [List.mem_singleton] at hb; subst hb; exact fun e => hny (e ▸ ha)⟩)
      (fun x hx => by
        rcases List.mem_append.1 hx with hx | hx
        · exact h2 x hx
        · rw [List.mem_singleton] at hx; subst hx; exact hPy)
      (by simp)
      (fun j hj => by
        rcases List.mem_cons.1 hj with rfl | hj
        · rcases hm with ⟨e1, e2⟩ | ⟨e1, e2⟩
          · exact ⟨List.mem_append.2 (.inl (e1 ▸ h3)), List.mem_append.2 (.inr (by rw [e2]; simp))⟩
          · exact ⟨List.mem_append.2 (.inr (by rw [e2]; simp)), List.mem_append.2 (.inl (e1 ▸ h3))⟩
        · exact ⟨List.mem_append.2 (.inl (h4 j hj).1), List.mem_append.2 (.inl (h4 j hj).2)⟩)
    refine ⟨g1, g2, List.nodup_cons.2 ⟨fun hm => g4 i hm (by simp), g3⟩, fun j hj => ?_⟩
    rcases List.mem_cons.1 hj with rfl | hj
    · exact hiU
    · exact fun hu => g4 j hj (List.mem_cons_of_mem _ hu)
theorem rnodes_facts {n : Network} {r : Route} {o : List Int} (hn : NetF n) (h : rnodes n r = some o) : o.Nodup ∧ (∀ x ∈ o, 0 ≤ x ∧ x < (n.Nodes.length : Int)) ∧ r.Fibers.Nodup ∧ r.Fibers.length ≤ 7 ∧ r.Fibers ≠ [] ∧ 0 ≤ r.Start ∧ r.Start < (n.Nodes.length : Int) := by
  have hl := rnodes_len h
  unfold rnodes at h
  split at h
  case isFalse => cases h
  rename_i hs
  obtain ⟨g1, g2, g3, _⟩ := rwalk_all (fun x => 0 ≤ x ∧ x < (n.Nodes.length : Int)) (fun f hf => by have := hn.each f hf; omega) [] h (by simp) (by simpa using hs.1) (by simp) (by simp)
  have := short_of _ _ g1 g2
  have := hn.hi
  exact ⟨g1, g2, g3, by omega, hs.2, hs.1⟩
theorem rnodes_short {n : Network} {r : Route} {o : List Int} (hn : NetF n) (h : rnodes n r = some o) : r.Fibers.length ≤ 8 := by
  have := (rnodes_facts hn h).2.2.2.1
  omega
end AT

namespace AT
theorem app_nil {α : Type} {l : List α} (h : l.length ≤ 1099511627776) : app ([] : List α) l = some l := by rw [app_ok (by simpa using h)]; rfl
structure NetD (n : Network) : Prop where
  n1 : 1 ≤ n.Nodes.length
  n2 : n.Nodes.length ≤ 20
  ns : ∀ e ∈ n.Nodes, e.size ≤ 100
  f2 : n.Fibers.length ≤ 20
theorem NetD.B {n : Network} (h : NetD n) : NetB n := ⟨⟨by have := h.n2; omega, fun e he => by have := h.ns e he; omega⟩, by have := h.f2; omega⟩
theorem rem_ok {a n : Int} (ha : 0 ≤ a) (hn : 0 < n) : ∃ q, rem a n = some q ∧ 0 ≤ q ∧ q < n := by
  unfold rem
  rw [if_neg (by omega), Int.tmod_eq_emod_of_nonneg ha]
  exact ⟨_, rfl, Int.emod_nonneg _ (by omega), Int.emod_lt_of_pos _ hn⟩
theorem app1 {α : Type} {l : List α} {x : α} (h : l.length ≤ 1000000) : app l [x] = some (l ++ [x]) := app_ok (by simp; omega)
theorem least_ex (fu : Nat) (a b : Int) : ∃ r, spec_l1Least fu a b = some r ∧ (r = a ∨ r = b) := by
  unfold spec_l1Least; split <;> exact ⟨_, rfl, by simp⟩
theorem most_ex (fu : Nat) (a b : Int) : ∃ r, spec_l1Most fu a b = some r ∧ (r = a ∨ r = b) := by
  unfold spec_l1Most; split <;> exact ⟨_, rfl, by simp⟩
theorem l2Put_loop {fu : Nat} (l : List Fiber) (f : Fiber) (hl : l.length ≤ 1000000) : ∀ (fk i : Nat), i ≤ l.length → l.length - i < fk → ∃ j : Nat, spec_l2Put_L1 fu l f fk i = some (j : Int) ∧ j ≤ l.length := by
  intro fk
  induction fk with
  | zero => intro i _ h; omega
  | succ fk ih =>
    intro i hi hf
    rw [spec_l2Put_L1]
    by_cases h : i < l.length
    · have hlt : ((i : Int) < (l.length : Int)) = True := by simp; omega
      simp only [hlt, decide_true, if_true, idx_in h, Option.bind_some, l2Before_eq, w64_inc h (show (l.length : Int) ≤ 9223372036854775807 by omega)]
      split
      · exact ih (i + 1) h (by omega)
      · exact ⟨i, rfl, hi⟩
    · have hlt : ((i : Int) < (l.length : Int)) = False := by simp; omega
      simp only [hlt, decide_false, Bool.false_eq_true, if_false, Option.bind_some]
      exact ⟨i, rfl, hi⟩
theorem l2Put_ok {fu : Nat} (hfu : 2097153 ≤ fu) (l : List Fiber) (f : Fiber) (hl : l.length ≤ 1000000) : ∃ r, spec_l2Put fu l f = some r ∧ r.length = l.length + 1 := by
  unfold spec_l2Put
  obtain ⟨j, h1, h2⟩ := l2Put_loop (fu := fu) l f hl fu 0 (by omega) (by omega)
  have hs : sub l (j : Int) (l.length : Int) = some (l.drop j) := by
    unfold sub
    rw [if_pos (by omega)]
    simp
  rw [show ((0 : Nat) : Int) = 0 from rfl] at h1
  rw [h1, Option.bind_some, sub_take h2, Option.bind_some, hs, Option.bind_some, app_nil (by rw [List.length_take]; omega), Option.bind_some, app_ok (by rw [List.length_take, List.length_singleton]; omega), Option.bind_some, app_ok (by rw [List.length_append, List.length_take, List.length_singleton, List.length_drop]; omega), Option.bind_some]
  refine ⟨_, rfl, ?_⟩
  simp only [List.length_append, List.length_take, List.length_singleton, List.length_drop]
  omega
theorem net_loop1 {fu : Nat} (hfu : 2097153 ≤ fu) (y : Int × L1CurP) (K : Nat) (hK : w64 (2 + y.1) = (K : Int)) (h2 : 2 ≤ K) (h6 : K ≤ 6) : ∀ (fk i : Nat) (m : List By) (m2 : Int) (m3 : U64) (l : List Fiber) (k B : Int), Cur ⟨m, m2, m3⟩ k → k ≤ B + 10 * (i : Int) → B ≤ 1000000000 → l.length ≤ i → i ≤ K → K - i < fk →
    ∃ i' m' a' s' l', spec_l1Cur_network_L1 fu y fk i m m2 m3 l = some (i', m', a', s', l') ∧ l'.length ≤ K ∧ Cur ⟨m', a', s'⟩ (B + 10 * (K : Int)) := by
  intro fk
  induction fk with
  | zero => intro i _ _ _ _ _ _ _ _ _ _ _ h; omega
  | succ fk ih =>
    intro i m m2 m3 l k B hc hk hB hl hi hf
    rw [spec_l1Cur_network_L1, hK]
    by_cases h : i < K
    · have hlt : ((i : Int) < (K : Int)) = True := by simp; omega
      have e : w64 ((i : Int) + 1) = ((i + 1 : Nat) : Int) := w64_inc h (by omega)
      obtain ⟨q, hq, q0, q1⟩ := rem_ok (a := ((i + 1 : Nat) : Int)) (n := (K : Int)) (by omega) (by omega)
      obtain ⟨r1, c1, g1, -, -, k1⟩ := pick_ok (fu := fu) hc (by omega) 10 (by decide)
      simp only [hlt, decide_true, if_true, e, hq, Option.bind_some, spec_l1Cur_one, g1]
      have k1' : Cur ⟨c1.code, c1.at_, c1.seed⟩ (k + 2) := k1
      split
      · exact ih (i + 1) _ _ _ _ k B hc (by omega) hB (by omega) h (by omega)
      · split
        · exact ih (i + 1) _ _ _ _ (k + 2) B k1' (by omega) hB (by omega) h (by omega)
        · obtain ⟨r3, g3, -⟩ := least_ex fu (i : Int) q
          obtain ⟨r4, g4, -⟩ := most_ex fu (i : Int) q
          obtain ⟨r5, c5, g5, -, -, k5⟩ := pick_ok (fu := fu) k1 (by omega) 8 (by decide)
          obtain ⟨r6, c6, g6, -, k6⟩ := among_ok (fu := fu) k5 (by omega) [0, 0, 0, 1, 2] (by decide) (by decide)
          obtain ⟨r7, g7, h7⟩ := l2Put_ok hfu l ({ A := r3, B := r4, Length := w64 (100 * (w64 (1 + r5))), Risk := r6 } : Fiber) (by omega)
          simp only [g3, g4, g5, g6, g7, Option.bind_some]
          exact ih (i + 1) _ _ _ _ (k + 2 + 2 + 2) B k6 (by omega) hB (by omega) h (by omega)
    · obtain rfl : i = K := by omega
      have hlt : ((i : Int) < (i : Int)) = False := by simp
      simp only [hlt, decide_false, Bool.false_eq_true, if_false]
      exact ⟨_, _, _, _, _, rfl, hl, hc.mono (by omega)⟩
theorem net_loop2 {fu : Nat} (hfu : 2097153 ≤ fu) (y : Int × L1CurP) (K : Nat) (hK : w64 (2 + y.1) = (K : Int)) (h2 : 2 ≤ K) (h6 : K ≤ 6) : ∀ (fk n : Nat) (l : List Fiber) (m : List By) (m2 : Int) (m3 : U64) (k B : Int), Cur ⟨m, m2, m3⟩ k → k ≤ B - 10 * (n : Int) → B ≤ 1000000000 → l.length + n ≤ 9 → n < fk →
    ∃ i' l' m' a' s', spec_l1Cur_network_L2 fu y fk (n : Int) l m m2 m3 = some (i', l', m', a', s') ∧ l'.length ≤ 9 ∧ l.length ≤ l'.length ∧ Cur ⟨m', a', s'⟩ B := by
  intro fk
  induction fk with
  | zero => intro n _ _ _ _ _ _ _ _ _ _ h; omega
  | succ fk ih =>
    intro n l m m2 m3 k B hc hk hB hl hf
    rw [spec_l1Cur_network_L2, hK]
    by_cases h : 0 < n
    · have hlt : ((n : Int) > 0) = True := by simp; omega
      have e : w64 ((n : Int) - 1) = ((n - 1 : Nat) : Int) := w64_dec h (by omega)
      obtain ⟨r1, c1, g1, -, -, k1⟩ := pick_ok (fu := fu) hc (by omega) (K : Int) (by omega)
      obtain ⟨r2, c2, g2, -, -, k2⟩ := pick_ok (fu := fu) k1 (by omega) (K : Int) (by omega)
      simp only [hlt, decide_true, if_true, e, g1, g2, Option.bind_some]
      split
      · obtain ⟨r3, g3, -⟩ := least_ex fu r1 r2
        obtain ⟨r4, g4, -⟩ := most_ex fu r1 r2
        obtain ⟨r5, c5, g5, -, -, k5⟩ := pick_ok (fu := fu) k2 (by omega) 8 (by decide)
        obtain ⟨r6, c6, g6, -, k6⟩ := among_ok (fu := fu) k5 (by omega) [0, 0, 0, 1, 2] (by decide) (by decide)
        obtain ⟨r7, g7, h7⟩ := l2Put_ok hfu l ({ A := r3, B := r4, Length := w64 (100 * (w64 (1 + r5))), Risk := r6 } : Fiber) (by omega)
        simp only [g3, g4, g5, g6, g7, Option.bind_some]
        obtain ⟨i', l', m', a', s', q1, q2, q3, q4⟩ := ih (n - 1) r7 _ _ _ (k + 2 + 2 + 2 + 2) B k6 (by omega) hB (by omega) (by omega)
        exact ⟨i', l', m', a', s', q1, q2, by omega, q4⟩
      · exact ih (n - 1) _ _ _ _ (k + 2 + 2) B k2 (by omega) hB (by omega) (by omega)
    · obtain rfl : n = 0 := by omega
      rw [if_neg (by simp)]
      exact ⟨_, _, _, _, _, rfl, by omega, Nat.le_refl _, hc.mono (by omega)⟩
theorem network_ok {fu : Nat} (hfu : 2097153 ≤ fu) {c : L1CurP} {k : Int} (hc : Cur c k) (hk : k ≤ 900000000) : ∃ r c', spec_l1Cur_network fu c = some (r, c') ∧ NetD r ∧ r.Nodes.length ≤ 6 ∧ r.Fibers.length ≤ 9 ∧ Cur c' (k + 200) := by
  unfold spec_l1Cur_network
  obtain ⟨r1, c1, g1, p0, p1, k1⟩ := pick_ok (fu := fu) hc (by omega) 5 (by decide)
  have p2 := p1 (by decide)
  have hK : w64 (2 + r1) = (((2 + r1).toNat : Nat) : Int) := by rw [w64_in (by omega) (by omega)]; omega
  have hK2 : 2 ≤ (2 + r1).toNat := by omega
  have hK6 : (2 + r1).toNat ≤ 6 := by omega
  obtain ⟨i2, m2, a2, s2, l2, g2, h2, k2⟩ := net_loop1 hfu (r1, c1) (2 + r1).toNat hK hK2 hK6 fu 0 c1.code c1.at_ c1.seed [] (k + 2) (k + 2) k1 (by omega) (by omega) (by simp) (by omega) (by omega)
  obtain ⟨r3, c3, g3, q0, q1, k3⟩ := pick_ok (fu := fu) k2 (by omega) 4 (by decide)
  have q2 := q1 (by decide)
  obtain ⟨i4, l4, m4, a4, s4, g4, h4, -, k4⟩ := net_loop2 hfu (r1, c1) (2 + r1).toNat hK hK2 hK6 fu r3.toNat l2 c3.code c3.at_ c3.seed (k + 2 + 10 * ((2 + r1).toNat : Int) + 2) (k + 200) k3 (by omega) (by omega) (by omega) (by omega)
  rw [Int.ofNat_zero] at g2
  rw [Int.toNat_of_nonneg q0] at g4
  simp only [g1, Option.bind_some, hK]
  rw [sub_take (by simp; omega)]
  simp only [g2, g3, g4, Option.bind_some]
  refine ⟨_, _, rfl, ⟨by simp; omega, by simp; omega, fun e he => ?_, by simp only; omega⟩, by simp; omega, h4, k4⟩
  have he' := List.mem_of_mem_take he
  simp only [List.mem_cons, List.not_mem_nil, or_false] at he'
  rcases he' with rfl | rfl | rfl | rfl | rfl | rfl <;> decide
theorem route_loop2 {fu : Nat} (hfu : 2097153 ≤ fu) (n : Network) (y : Int × L1CurP) (seen : List Int) (hn : n.Fibers.length ≤ 1000000) (h1 : 1 ≤ seen.length) (h2 : seen.length ≤ 1000000) : ∀ (fk i : Nat) (o : List Int), i ≤ n.Fibers.length → n.Fibers.length - i < fk → o.length ≤ i → (∀ e ∈ o, 0 ≤ e ∧ e < (n.Fibers.length : Int)) →
    ∃ l i', spec_l1Cur_route_L2 fu n y seen fk o i = some (l, i') ∧ l.length ≤ n.Fibers.length ∧ ∀ e ∈ l, 0 ≤ e ∧ e < (n.Fibers.length : Int) := by
  intro fk
  induction fk with
  | zero => intro i _ _ h; omega
  | succ fk ih =>
    intro i o hi hf ho hr
    rw [spec_l1Cur_route_L2]
    by_cases h : i < n.Fibers.length
    · have hlt : ((i : Int) < (n.Fibers.length : Int)) = True := by simp; omega
      have e1 : w64 ((seen.length : Int) - 1) = ((seen.length - 1 : Nat) : Int) := by rw [w64_in (by omega) (by omega)]; omega
      have hh : ∀ v, spec_l1Has fu seen v = some (seen.any fun x => x == v) := fun v => l1Has_eq seen v (by omega) (by omega)
      have ha : app o [(i : Int)] = some (o ++ [(i : Int)]) := app1 (by omega)
      simp only [hlt, decide_true, if_true, e1, idx_in (show seen.length - 1 < seen.length by omega), Option.bind_some, l2Other_eq fu n i _ h, hh, ha, w64_inc h (show (n.Fibers.length : Int) ≤ 9223372036854775807 by omega)]
      have two : ∀ b : Bool, ∃ l i', (if b = true then spec_l1Cur_route_L2 fu n y seen fk (o ++ [(i : Int)]) ((i + 1 : Nat) : Int) else spec_l1Cur_route_L2 fu n y seen fk o ((i + 1 : Nat) : Int)) = some (l, i') ∧ l.length ≤ n.Fibers.length ∧ ∀ e ∈ l, 0 ≤ e ∧ e < (n.Fibers.length : Int) := by
        intro b
        cases b
        · exact ih (i + 1) o h (by omega) (by omega) hr
        · refine ih (i + 1) _ h (by omega) (by simp; omega) fun e he => ?_
          rcases List.mem_append.1 he with he | he
          · exact hr e he
          · simp only [List.mem_singleton] at he
            omega
      split
      · exact two _
      · exact two false
    · obtain rfl : i = n.Fibers.length := by omega
      rw [if_neg (by simp)]
      exact ⟨_, _, rfl, ho, hr⟩
theorem route_loop1 {fu : Nat} (hfu : 2097153 ≤ fu) (n : Network) (y : Int × L1CurP) (hn : n.Fibers.length ≤ 1000) : ∀ (fk m : Nat) (seen l : List Int) (b : List By) (a : Int) (s : U64) (k B : Int), Cur ⟨b, a, s⟩ k → k ≤ B - 2 * (m : Int) → B ≤ 1000000000 → 1 ≤ seen.length → seen.length + m ≤ 1000 → l.length + m ≤ 4 → (∀ e ∈ l, 0 ≤ e ∧ e < (n.Fibers.length : Int)) → m < fk →
    ∃ s2 m2 l' b' a' s', spec_l1Cur_route_L1 fu n y fk seen (m : Int) l b a s = some (s2, m2, l', b', a', s') ∧ l'.length ≤ 4 ∧ (∀ e ∈ l', 0 ≤ e ∧ e < (n.Fibers.length : Int)) ∧ Cur ⟨b', a', s'⟩ B := by
  intro fk
  induction fk with
  | zero => intro m _ _ _ _ _ _ _ _ _ _ _ _ _ _ h; omega
  | succ fk ih =>
    intro m seen l b a s k B hc hk hB hs1 hs2 hl hr hf
    rw [spec_l1Cur_route_L1]
    by_cases h : 0 < m
    · have hlt : ((m : Int) > 0) = True := by simp; omega
      have e : w64 ((m : Int) - 1) = ((m - 1 : Nat) : Int) := w64_dec h (by omega)
      obtain ⟨z, zi, g1, z1, z2⟩ := route_loop2 hfu n y seen (by omega) hs1 (by omega) fu 0 [] (by omega) (by omega) (by simp) (by simp)
      rw [Int.ofNat_zero] at g1
      have e1 : w64 ((seen.length : Int) - 1) = ((seen.length - 1 : Nat) : Int) := by rw [w64_in (by omega) (by omega)]; omega
      simp only [hlt, decide_true, if_true, e, g1, Option.bind_some]
      by_cases hz : z.length = 0
      · have hz' : ((z.length : Int) == 0) = true := by simp [hz]
        simp only [hz', if_true]
        exact ⟨_, _, _, _, _, _, rfl, by omega, hr, hc.mono (by omega)⟩
      · have hz' : ((z.length : Int) == 0) = false := by simpa using hz
        obtain ⟨r1, c1, g2, p0, p1, k1⟩ := pick_ok (fu := fu) hc (by omega) (z.length : Int) (by omega)
        obtain ⟨x, hx, hxm⟩ := idx_some (l := z) (i := r1) p0 (p1 (by omega))
        obtain ⟨x0, x1⟩ := z2 x hxm
        have hxn : x = ((x.toNat : Nat) : Int) := by omega
        have ho : ∀ v, spec_l2Other fu n x v = some (oth (gd n.Fibers x.toNat f0) v) := fun v => by
          have := l2Other_eq fu n x.toNat v (by omega)
          rwa [← hxn] at this
        simp only [hz', Bool.false_eq_true, if_false, g2, Option.bind_some, hx, e1, idx_in (show seen.length - 1 < seen.length by omega), ho, app1 (show l.length ≤ 1000000 by omega), app1 (show seen.length ≤ 1000000 by omega)]
        refine ih (m - 1) _ _ _ _ _ (k + 2) B k1 (by omega) hB (by simp) (by simp; omega) (by simp; omega) (fun q hq => ?_) (by omega)
        rcases List.mem_append.1 hq with hq | hq
        · exact hr q hq
        · simp only [List.mem_singleton] at hq
          omega
    · obtain rfl : m = 0 := by omega
      rw [if_neg (by simp)]
      exact ⟨_, _, _, _, _, _, rfl, by omega, hr, hc.mono (by omega)⟩
theorem route_ok {fu : Nat} (hfu : 2097153 ≤ fu) {c : L1CurP} {k : Int} (hc : Cur c k) (hk : k ≤ 900000000) {n : Network} (hn : n.Fibers.length ≤ 1000) (hm : n.Nodes.length ≤ 1000) : ∃ r c', spec_l1Cur_route fu c n = some (r, c') ∧ r.Fibers.length ≤ 4 ∧ (∀ e ∈ r.Fibers, 0 ≤ e ∧ e < (n.Fibers.length : Int)) ∧ Cur c' (k + 20) := by
  unfold spec_l1Cur_route
  obtain ⟨r1, c1, g1, -, -, k1⟩ := pick_ok (fu := fu) hc (by omega) (n.Nodes.length : Int) (by omega)
  obtain ⟨r2, c2, g2, p0, p1, k2⟩ := pick_ok (fu := fu) k1 (by omega) 4 (by decide)
  have p2 := p1 (by decide)
  have e : w64 (1 + r2) = (((1 + r2).toNat : Nat) : Int) := by rw [w64_in (by omega) (by omega)]; omega
  obtain ⟨s3, m3, l3, b3, a3, t3, g3, h3, h4, k3⟩ := route_loop1 hfu n (r1, c1) hn fu (1 + r2).toNat [r1] [] c2.code c2.at_ c2.seed (k + 2 + 2) (k + 20) k2 (by omega) (by omega) (by simp) (by simp; omega) (by simp; omega) (by simp) (by omega)
  simp only [g1, g2, Option.bind_some, e, g3]
  exact ⟨_, _, rfl, h3, h4, k3⟩
theorem anyRoute_ok {fu : Nat} (hfu : 2097153 ≤ fu) {c : L1CurP} {k : Int} (hc : Cur c k) (hk : k ≤ 900000000) {n : Network} (hn : n.Fibers.length ≤ 1000) (hm : n.Nodes.length ≤ 1000) : ∃ r c', spec_l1Cur_anyRoute fu c n = some (r, c') ∧ r.Fibers.length ≤ 5 ∧ Cur c' (k + 30) := by
  unfold spec_l1Cur_anyRoute
  obtain ⟨r, c1, g1, h1, -, k1⟩ := route_ok hfu hc hk hn hm
  obtain ⟨r2, c2, g2, -, -, k2⟩ := pick_ok (fu := fu) k1 (by omega) 16 (by decide)
  obtain ⟨r3, c3, g3, -, -, k3⟩ := pick_ok (fu := fu) k2 (by omega) 8 (by decide)
  simp only [g1, g2, g3, Option.bind_some, app1 (show r.Fibers.length ≤ 1000000 by omega)]
  split
  · exact ⟨_, _, rfl, by simp only; omega, k3.mono (by omega)⟩
  split
  · exact ⟨_, _, rfl, by simp; omega, k3.mono (by omega)⟩
  split
  · exact ⟨_, _, rfl, by simp, k2.mono (by omega)⟩
  split
  · split
    · rename_i h
      have h0 : (1 : Int) < r.Fibers.length := by simpa using h
      have e1 : w64 ((r.Fibers.length : Int) - 1) = ((r.Fibers.length - 1 : Nat) : Int) := by rw [w64_in (by omega) (by omega)]; omega
      simp only [e1, idx_in (show r.Fibers.length - 1 < r.Fibers.length by omega), Option.bind_some, app1 (show r.Fibers.length ≤ 1000000 by omega)]
      exact ⟨_, _, rfl, by simp; omega, k2.mono (by omega)⟩
    · exact ⟨_, _, rfl, by omega, k2.mono (by omega)⟩
  · exact ⟨_, _, rfl, by omega, k2.mono (by omega)⟩
theorem of_ok {fu : Nat} {c : L1CurP} {k : Int} (hc : Cur c k) (hk : k ≤ 4611686018427387000) (l : List ByteArray) (h1 : 1 ≤ l.length) (hn : l.length ≤ 1099511627776) : ∃ r c', spec_l1Cur_of fu c l = some (r, c') ∧ r ∈ l ∧ Cur c' (k + 2) := by
  unfold spec_l1Cur_of
  obtain ⟨r, c', g1, g2, g3, g4⟩ := pick_ok (fu := fu) hc hk (l.length : Int) (by omega)
  obtain ⟨e, he, hm⟩ := idx_some (l := l) (i := r) g2 (g3 (by omega))
  simp only [g1, Option.bind_some, he]
  exact ⟨_, _, rfl, hm, g4⟩
theorem anyNet_loop {fu : Nat} : ∀ (fk : Nat) (l : List Fiber) (b : List By) (a : Int) (s : U64) (k B : Int), Cur ⟨b, a, s⟩ k → k ≤ B + 2 * (l.length : Int) → B ≤ 1000000000 → 1 ≤ l.length → l.length ≤ 15 → 15 - l.length < fk →
    ∃ l' b' a' s', spec_l1Cur_anyNetwork_L1 fu fk l b a s = some (l', b', a', s') ∧ l'.length ≤ 15 ∧ Cur ⟨b', a', s'⟩ (B + 50) := by
  intro fk
  induction fk with
  | zero => intro l _ _ _ _ _ _ _ _ _ _ h; omega
  | succ fk ih =>
    intro l b a s k B hc hk hB h1 h2 hf
    rw [spec_l1Cur_anyNetwork_L1]
    obtain ⟨r1, c1, g1, p0, p1, k1⟩ := pick_ok (fu := fu) hc (by omega) 2 (by decide)
    have p2 := p1 (by decide)
    have e : w64 (14 + r1) = 14 + r1 := w64_in (by omega) (by omega)
    have e1 : w64 ((l.length : Int) - 1) = ((l.length - 1 : Nat) : Int) := by rw [w64_in (by omega) (by omega)]; omega
    simp only [g1, Option.bind_some, e, e1, idx_in (show l.length - 1 < l.length by omega), app1 (show l.length ≤ 1000000 by omega)]
    split
    · rename_i h
      have h' : (l.length : Int) < 14 + r1 := by simpa using h
      exact ih _ _ _ _ (k + 2) B k1 (by simp; omega) hB (by simp) (by simp; omega) (by simp; omega)
    · exact ⟨_, _, _, _, rfl, h2, k1.mono (by omega)⟩
theorem anyNetwork_ok {fu : Nat} (hfu : 2097153 ≤ fu) {c : L1CurP} {k : Int} (hc : Cur c k) (hk : k ≤ 800000000) : ∃ r c', spec_l1Cur_anyNetwork fu c = some (r, c') ∧ NetD r ∧ Cur c' (k + 500) := by
  unfold spec_l1Cur_anyNetwork
  obtain ⟨n, c1, g1, h1, h2, h3, k1⟩ := network_ok hfu hc (by omega)
  simp only [g1, Option.bind_some]
  by_cases h : n.Fibers.length = 0
  · have h' : ((n.Fibers.length : Int) == 0) = true := by simp [h]
    simp only [h', if_true]
    exact ⟨_, _, rfl, h1, k1.mono (by omega)⟩
  have h' : ((n.Fibers.length : Int) == 0) = false := by simpa using h
  obtain ⟨r2, c2, g2, p0, p1, k2⟩ := pick_ok (fu := fu) k1 (by omega) (n.Fibers.length : Int) (by omega)
  have p2 := p1 (by omega)
  obtain ⟨e, he, -⟩ := idx_some (l := n.Fibers) (i := r2) p0 p2
  obtain ⟨r3, c3, g3, -, -, k3⟩ := pick_ok (fu := fu) k2 (by omega) 24 (by decide)
  obtain ⟨r4, c4, g4, m4, k4⟩ := of_ok (fu := fu) k3 (by omega) [(⟨#[98]⟩ : ByteArray), ByteArray.empty, (⟨#[65]⟩ : ByteArray), (⟨#[97, 98, 99, 100, 101, 102, 103, 104]⟩ : ByteArray), (⟨#[97, 98, 99, 100, 101, 102, 103, 104, 105]⟩ : ByteArray), (⟨#[120, 49]⟩ : ByteArray)] (by simp) (by simp)
  obtain ⟨r5, c5, g5, -, -, k5⟩ := pick_ok (fu := fu) k3 (by omega) 8 (by decide)
  obtain ⟨r6, c6, g6, -, -, k6⟩ := pick_ok (fu := fu) k3 (by omega) 10 (by decide)
  obtain ⟨r7, c7, g7, -, k7⟩ := among_ok (fu := fu) k3 (by omega) [0, 1, 5000, 5001] (by decide) (by decide)
  obtain ⟨r8, c8, g8, -, k8⟩ := among_ok (fu := fu) k3 (by omega) [(-1), 9, 10] (by decide) (by decide)
  obtain ⟨e0, he0, -⟩ := idx_some (l := n.Fibers) (i := 0) (Int.le_refl _) (by omega)
  obtain ⟨v0, hv0, -⟩ := idx_some (l := n.Nodes) (i := 0) (Int.le_refl _) (by have := h1.n1; omega)
  obtain ⟨l9, b9, a9, s9, g9, h9, k9⟩ := anyNet_loop (fu := fu) fu n.Fibers c3.code c3.at_ c3.seed (k + 200 + 2 + 2) (k + 204) k3 (by omega) (by omega) (by omega) (by omega) (by omega)
  have hfs : ∀ f : Fiber, NetD ⟨n.Nodes, n.Fibers.set r2.toNat f⟩ := fun f => ⟨h1.n1, h1.n2, h1.ns, by simp only [List.length_set]; exact h1.f2⟩
  have ha := app1 (x := e0) (show n.Fibers.length ≤ 1000000 by omega)
  obtain ⟨e9, he9, -⟩ := idx_some (l := n.Fibers ++ [e0]) (i := r2) p0 (by simp; omega)
  have hn4 : app n.Nodes [(⟨#[112]⟩ : ByteArray), (⟨#[113]⟩ : ByteArray), (⟨#[114]⟩ : ByteArray), (⟨#[115]⟩ : ByteArray)] = some (n.Nodes ++ [(⟨#[112]⟩ : ByteArray), (⟨#[113]⟩ : ByteArray), (⟨#[114]⟩ : ByteArray), (⟨#[115]⟩ : ByteArray)]) := app_ok (by simp; omega)
  simp only [h', Bool.false_eq_true, if_false, g2, g3, g4, g5, g6, g7, g8, g9, he, he0, hv0, ha, he9, hn4, Option.bind_some]
  split
  · refine ⟨_, _, rfl, ⟨by simp only [List.length_set]; exact h1.n1, by simp only [List.length_set]; exact h1.n2, fun z hz => ?_, by simp only [List.length_set]; exact h1.f2⟩, k4.mono (by omega)⟩
    rcases List.mem_or_eq_of_mem_set hz with hz | rfl
    · exact h1.ns z hz
    · simp only [List.mem_cons, List.not_mem_nil, or_false] at m4
      rcases m4 with rfl | rfl | rfl | rfl | rfl | rfl <;> decide
  split
  · exact ⟨_, _, rfl, hfs _, k5.mono (by omega)⟩
  split
  · exact ⟨_, _, rfl, hfs _, k6.mono (by omega)⟩
  split
  · exact ⟨_, _, rfl, hfs _, k7.mono (by omega)⟩
  split
  · exact ⟨_, _, rfl, hfs _, k8.mono (by omega)⟩
  split
  · exact ⟨_, _, rfl, ⟨h1.n1, h1.n2, h1.ns, by simp; omega⟩, k3.mono (by omega)⟩
  split
  · exact ⟨_, _, rfl, ⟨h1.n1, h1.n2, h1.ns, by simp only; omega⟩, k9.mono (by omega)⟩
  split
  · refine ⟨_, _, rfl, ⟨by simp, by simp; omega, fun z hz => ?_, by simp only [List.length_set]; exact h1.f2⟩, k3.mono (by omega)⟩
    rcases List.mem_append.1 hz with hz | hz
    · exact h1.ns z hz
    · simp only [List.mem_cons, List.not_mem_nil, or_false] at hz
      rcases hz with rfl | rfl | rfl | rfl <;> decide
  · exact ⟨_, _, rfl, hfs _, k3.mono (by omega)⟩
end AT

namespace AT
theorem part_of (l : List Int) (n : Nat) {v : Int} (h0 : 0 ≤ v) (h : v < 40) (hn : n + 2 ≤ l.length) (hn2 : n ≤ 100) (hl : 1 ≤ n) (hl2 : l.length ≤ 100) : ∃ q, quo v 20 = some q ∧ ∃ l', sub l 0 (w64 ((n : Int) + q)) = some l' ∧ 1 ≤ l'.length ∧ l'.length ≤ 100 := by
  have hq : quo v 20 = some (v / 20) := by unfold quo; rw [if_neg (by omega), Int.tdiv_eq_ediv_of_nonneg h0, w64_in (by omega) (by omega)]
  refine ⟨_, hq, ?_⟩
  clear hq
  have hb : 0 ≤ v / 20 ∧ v / 20 ≤ 1 := by omega
  generalize v / 20 = q at hb
  have hw : w64 ((n : Int) + q) = n + q := w64_in (by omega) (by omega)
  rw [hw]
  clear hw
  unfold sub
  rw [if_pos (by omega)]
  refine ⟨_, rfl, ?_⟩
  simp only [List.length_take, List.length_drop]
  omega
theorem reach_ok {fu : Nat} {c : L1CurP} {k : Int} (hc : Cur c k) (hk : k ≤ 4611686018427380000) : ∃ r c', spec_l1Cur_reach19 fu c = some (r, c') ∧ Cur c' (k + 4) := by
  unfold spec_l1Cur_reach19
  obtain ⟨v, c2, p1, p2, p3, p4⟩ := pick_ok (fu := fu) hc (by omega) 40 (by omega)
  obtain ⟨q, q1, l, q2, q3, q4⟩ := part_of [500, 700, 800, 1000, 1500, 400, 200, 20000, 0, 20001] 8 p2 (p3 (by omega)) (by simp) (by omega) (by omega) (by simp)
  obtain ⟨u, c4, u1, -, u3⟩ := among_ok (fu := fu) p4 (by omega) l q3 (by omega)
  rw [show ((8 : Nat) : Int) = 8 from rfl] at q2
  simp only [p1, Option.bind_some, q1, q2, u1]
  exact ⟨_, _, rfl, u3.mono (by omega)⟩
end AT

namespace AT
theorem l4Nodes_eq {fu : Nat} (hfu : 2097153 ≤ fu) (n : Network) (r : Route) (hB : NetB n) (hr : r.Fibers.length ≤ 2097152) {o : List Int} (ho : rnodes n r = some o) : spec_l4Nodes fu n r = some o := by
  unfold spec_l4Nodes
  obtain ⟨o', h⟩ := walk_eq hfu n r hB.2 hB.1.1 hr
  rw [h, ho]; rfl
theorem routeNodes_eq {fu : Nat} (hfu : 2097153 ≤ fu) (n : Network) (r : Route) (hB : NetB n) (hr : r.Fibers.length ≤ 2097152) : impl_RouteNodes fu n r = some (match (if netOk n = true then rnodes n r else none) with | some o => (o, true) | none => ([], false)) := by
  unfold impl_RouteNodes
  rw [implNet_eq hfu n hB, Option.bind_some]
  cases netOk n
  · rfl
  · simp only [Bool.not_true, Bool.false_eq_true, if_false, if_true, visited_eq hfu n r hB.2 hB.1.1 hr, Option.bind_some]
    try rfl
end AT

namespace AT
def regs (reach : Int) : List Int → Nat → Int → Option (List Nat)
  | [], _, _ => some []
  | x :: L, i, s => if x > reach then none else if s + x > reach then (regs reach L (i + 1) x).map (i :: ·) else regs reach L (i + 1) (s + x)
def segs : List Int → Nat → List Nat → Int → List Int × Int
  | [], _, _, s => ([], s)
  | x :: L, i, [], s => segs L (i + 1) [] (s + x)
  | x :: L, i, p :: ps, s => if p = i then (s :: (segs L (i + 1) ps x).1, (segs L (i + 1) ps x).2) else segs L (i + 1) (p :: ps) (s + x)
def ris (b : Nat) : Nat → List Nat → Prop
  | _, [] => True
  | a, p :: ps => a ≤ p ∧ p < b ∧ ris b (p + 1) ps
theorem ris_mono {b : Nat} : ∀ {ps : List Nat} {a a' : Nat}, a' ≤ a → ris b a ps → ris b a' ps
  | [], _, _, _, _ => trivial
  | p :: ps, a, a', h, hr => ⟨Nat.le_trans h hr.1, hr.2.1, hr.2.2⟩
theorem ris_erase {b : Nat} : ∀ {ps : List Nat} {a : Nat} (k : Nat), ris b a ps → ris b a (ps.eraseIdx k)
  | [], _, _, _ => trivial
  | p :: ps, a, 0, hr => ris_mono (Nat.le_succ_of_le hr.1) hr.2.2
  | p :: ps, a, k + 1, hr => ⟨hr.1, hr.2.1, ris_erase k hr.2.2⟩
theorem ris_len {b : Nat} : ∀ {ps : List Nat} {a : Nat}, ris b a ps → a ≤ b → ps.length + a ≤ b
  | [], a, _, h => by simpa using h
  | p :: ps, a, hr, h => by
    have := ris_len hr.2.2 hr.2.1
    have := hr.1
    simp only [List.length_cons]; omega
theorem regs_ris {reach : Int} : ∀ {L : List Int} {i : Nat} {s : Int} {ps : List Nat}, regs reach L i s = some ps → ris (i + L.length) i ps
  | [], i, s, ps, h => by
    simp only [regs, Option.some.injEq] at h; subst h; trivial
  | x :: L, i, s, ps, h => by
    rw [regs] at h
    split at h
    · cases h
    · split at h
      · rw [Option.map_eq_some_iff] at h
        obtain ⟨q, hq, rfl⟩ := h
        have h2 := regs_ris hq
        exact ⟨Nat.le_refl _, by simp only [List.length_cons]; omega, by rw [show i + (x :: L).length = i + 1 + L.length by simp only [List.length_cons]; omega]; exact h2⟩
      · have h2 := regs_ris h
        rw [show i + (x :: L).length = i + 1 + L.length by simp only [List.length_cons]; omega]
        exact ris_mono (by omega) h2
def isum : List Int → Int
  | [] => 0
  | x :: l => x + isum l
theorem segs_sum : ∀ (L : List Int) (i : Nat) (ps : List Nat) (s : Int), isum (segs L i ps s).1 + (segs L i ps s).2 = s + isum L
  | [], _, _, s => by simp [segs, isum]
  | x :: L, i, [], s => by
    rw [segs, isum, segs_sum L (i + 1) [] (s + x)]; omega
  | x :: L, i, p :: ps, s => by
    rw [segs]
    by_cases h : p = i
    · simp only [h, if_true, isum]
      have := segs_sum L (i + 1) ps x
      omega
    · simp only [h, if_false, isum]
      have := segs_sum L (i + 1) (p :: ps) (s + x)
      omega
theorem segs_len : ∀ (L : List Int) (i : Nat) (ps : List Nat) (s : Int), ris (i + L.length) i ps → (segs L i ps s).1.length = ps.length
  | [], i, [], s, _ => rfl
  | [], i, p :: ps, s, h => by
    have h1 := h.1
    have h2 := h.2.1
    simp only [List.length_nil] at h2; omega
  | x :: L, i, [], s, h => by
    rw [segs]; exact segs_len L (i + 1) [] (s + x) trivial
  | x :: L, i, p :: ps, s, h => by
    have e : i + (x :: L).length = i + 1 + L.length := by simp only [List.length_cons]; omega
    rw [e] at h
    rw [segs]
    by_cases hp : p = i
    · subst hp
      simp only [if_true, List.length_cons]
      rw [segs_len L (p + 1) ps x h.2.2]
    · simp only [hp, if_false]
      have h1 := h.1
      exact segs_len L (i + 1) (p :: ps) (s + x) ⟨by omega, h.2.1, h.2.2⟩
theorem segs_in {reach : Int} : ∀ (L : List Int) (i : Nat) (s : Int) (ps : List Nat), (∀ x ∈ L, 1 ≤ x) → regs reach L i s = some ps → 1 ≤ s → s ≤ reach → (∀ x ∈ (segs L i ps s).1, 1 ≤ x ∧ x ≤ reach) ∧ 1 ≤ (segs L i ps s).2 ∧ (segs L i ps s).2 ≤ reach
  | [], i, s, ps, _, h, h1, h2 => by
    simp only [regs, Option.some.injEq] at h; subst h
    exact ⟨fun x hx => by simp [segs] at hx, h1, h2⟩
  | x :: L, i, s, ps, hL, h, h1, h2 => by
    have hx := hL x (by simp)
    have hL' : ∀ y ∈ L, 1 ≤ y := fun y hy => hL y (by simp [hy])
    rw [regs] at h
    by_cases c1 : x > reach
    · rw [if_pos c1] at h; cases h
    rw [if_neg c1] at h
    by_cases c2 : s + x > reach
    · rw [if_pos c2, Option.map_eq_some_iff] at h
      obtain ⟨q, hq, rfl⟩ := h
      obtain ⟨g1, g2, g3⟩ := segs_in L (i + 1) x q hL' hq hx (by omega)
      rw [segs]
      simp only [if_true]
      refine ⟨fun y hy => ?_, g2, g3⟩
      rcases List.mem_cons.1 hy with rfl | hy
      · exact ⟨h1, h2⟩
      · exact g1 y hy
    · rw [if_neg c2] at h
      have hr := regs_ris h
      obtain ⟨g1, g2, g3⟩ := segs_in L (i + 1) (s + x) ps hL' h (by omega) (by omega)
      cases ps with
      | nil => rw [segs]; exact ⟨g1, g2, g3⟩
      | cons p ps =>
        have := hr.1
        rw [segs, if_neg (by omega)]; exact ⟨g1, g2, g3⟩
theorem segs_in0 {reach : Int} (x : Int) (L : List Int) (ps : List Nat) (hx : 1 ≤ x) (hL : ∀ x ∈ L, 1 ≤ x) (h : regs reach (x :: L) 0 0 = some ps) : (∀ y ∈ (segs (x :: L) 0 ps 0).1, 1 ≤ y ∧ y ≤ reach) ∧ 1 ≤ (segs (x :: L) 0 ps 0).2 ∧ (segs (x :: L) 0 ps 0).2 ≤ reach ∧ ris (L.length + 1) 1 ps := by
  rw [regs] at h
  by_cases c1 : x > reach
  · rw [if_pos c1] at h; cases h
  rw [if_neg c1, if_neg (by omega), Int.zero_add] at h
  have hr := regs_ris h
  obtain ⟨g1, g2, g3⟩ := segs_in L 1 x ps hL h hx (by omega)
  rw [Nat.add_comm] at hr
  cases ps with
  | nil => rw [segs, Int.zero_add]; exact ⟨g1, g2, g3, hr⟩
  | cons p ps =>
    have := hr.1
    rw [segs, if_neg (by omega), Int.zero_add]; exact ⟨g1, g2, g3, hr⟩
theorem isum_pos : ∀ (L : List Int), (∀ x ∈ L, 1 ≤ x) → 0 ≤ isum L
  | [], _ => by simp [isum]
  | x :: L, h => by
    have := isum_pos L fun y hy => h y (by simp [hy])
    have := h x (by simp)
    rw [isum]; omega
theorem regs_far {reach : Int} : ∀ (L : List Int) (i : Nat) (s : Int) (p : Nat) (ps : List Nat), (∀ x ∈ L, 1 ≤ x) → regs reach L i s = some (p :: ps) → s + isum L > reach
  | [], i, s, p, ps, _, h => by simp [regs] at h
  | x :: L, i, s, p, ps, hL, h => by
    have hL' : ∀ y ∈ L, 1 ≤ y := fun y hy => hL y (by simp [hy])
    rw [regs] at h
    split at h
    · cases h
    · split at h
      · have := isum_pos L hL'
        rw [isum]; omega
      · have := regs_far L (i + 1) (s + x) p ps hL' h
        rw [isum]; omega
theorem segs_nil : ∀ (L : List Int) (i : Nat) (s : Int), segs L i [] s = ([], s + isum L)
  | [], i, s => by simp [segs, isum]
  | x :: L, i, s => by rw [segs, segs_nil L (i + 1) (s + x), isum, Int.add_assoc]
end AT

namespace AT
def lens (n : Network) (r : Route) : List Int := r.Fibers.map fun i => (gd n.Fibers i.toNat f0).Length
theorem lens_len (n : Network) (r : Route) : (lens n r).length = r.Fibers.length := by simp [lens]
theorem lens_drop (n : Network) (r : Route) {i : Nat} (h : i < r.Fibers.length) : (lens n r).drop i = (gd n.Fibers r.Fibers[i].toNat f0).Length :: (lens n r).drop (i + 1) := by
  rw [← List.getElem_cons_drop (by rw [lens_len]; exact h)]
  simp [lens]
theorem lens_in {n : Network} {r : Route} {ns : List Int} (hn : NetF n) (ho : rnodes n r = some ns) : ∀ x ∈ lens n r, 1 ≤ x ∧ x ≤ 5000 := by
  intro x hx
  obtain ⟨i, hi, rfl⟩ := List.mem_iff_getElem.1 hx
  have hi' : i < r.Fibers.length := by rw [lens_len] at hi; exact hi
  obtain ⟨-, e2⟩ := fib_at ho hi'
  have := hn.each _ e2
  simp only [lens, List.getElem_map]
  omega
def outN (ns : List Int) (ps : List Nat) : List Int := ps.map fun p => gd ns p 0
theorem regen_at {fu fu' : Nat} (n : Network) (r : Route) (reach : Int) (hr1 : reach ≤ 20000) {ns : List Int} (b : Bool) (hn : NetF n) (ho : rnodes n r = some ns) : ∀ (fk i : Nat) (out : List Int) (s : Int), i ≤ r.Fibers.length → r.Fibers.length - i < fk → out.length ≤ i → 0 ≤ s → s ≤ 20000 →
    (regs reach ((lens n r).drop i) i s = none ∧ spec_RegeneratorsFor_L1 fu n r reach ns fk out s i = some (.ret ([], false)) ∧ impl_regenerators_L1 fu' n r reach (ns, b) fk out s i = some (.ret ([], false))) ∨
    (∃ ps z, regs reach ((lens n r).drop i) i s = some ps ∧ spec_RegeneratorsFor_L1 fu n r reach ns fk out s i = some (.next (out ++ outN ns ps, z)) ∧ impl_regenerators_L1 fu' n r reach (ns, b) fk out s i = some (.next (out ++ outN ns ps, z))) := by
  have hl := rnodes_short hn ho
  intro fk
  induction fk with
  | zero => intro i _ _ _ h; omega
  | succ fk ih =>
    intro i out s hi hk hol h0 h1
    rw [spec_RegeneratorsFor_L1, impl_regenerators_L1]
    by_cases h : i < r.Fibers.length
    · obtain ⟨e1, e2⟩ := fib_at ho h
      have hf := hn.each _ e2
      rw [lens_drop n r h]
      obtain ⟨f, hfe⟩ : ∃ f, f = gd n.Fibers r.Fibers[i].toNat f0 := ⟨_, rfl⟩
      rw [← hfe] at e1 hf
      rw [← hfe, regs]
      have hns := rnodes_len ho
      have hd : decide ((i : Int) < (r.Fibers.length : Int)) = true := by simpa using h
      simp only [hd, if_true, idx_gd (0 : Int) (show i < ns.length by omega), idx_in h, Option.bind_some, e1]
      by_cases hg : f.Length > reach
      · simp only [hg, decide_true, if_true]
        exact .inl ⟨by simp, by simp, by simp⟩
      · simp only [hg, decide_false, Bool.false_eq_true, if_false]
        rw [w64_in (n := s + f.Length) (by omega) (by omega), w64_in (n := 0 + f.Length) (by omega) (by omega), app_ok (by simp; omega), w64_inc h (by omega), Int.zero_add]
        by_cases hs : s + f.Length > reach
        · simp only [hs, decide_true, if_true, Option.bind_some]
          rcases ih (i + 1) (out ++ [gd ns i 0]) f.Length h (by omega) (by simp; omega) (by omega) (by omega) with ⟨g1, g2, g3⟩ | ⟨ps, z, g1, g2, g3⟩
          · exact .inl ⟨by rw [g1]; rfl, g2, g3⟩
          · refine .inr ⟨i :: ps, z, by rw [g1]; rfl, ?_, ?_⟩
            · rw [g2]; simp [outN]
            · rw [g3]; simp [outN]
        · simp only [hs, decide_false, Bool.false_eq_true, if_false]
          exact ih (i + 1) _ _ h (by omega) (by omega) (by omega) (by omega)
    · obtain rfl : i = r.Fibers.length := by omega
      rw [if_neg (by simp), if_neg (by simp), List.drop_of_length_le (by rw [lens_len]; exact Nat.le_refl _), regs]
      exact .inr ⟨[], (s, (r.Fibers.length : Int)), rfl, by simp [outN], by simp [outN]⟩
theorem seg_at {fu : Nat} (n : Network) (r : Route) {ns : List Int} (b : Bool) (hn : NetF n) (ho : rnodes n r = some ns) (nodes : List Int) : ∀ (fk i k : Nat) (ps : List Nat) (out : List Int) (s : Int), i ≤ r.Fibers.length → r.Fibers.length - i < fk → k + ps.length = nodes.length → nodes.drop k = outN ns ps → out.length ≤ i → ris r.Fibers.length (max i 1) ps → 0 ≤ s → s ≤ 5000 * (i : Int) → nodes.length ≤ 8 →
    impl_SegmentLengths_L1 fu n r nodes (ns, b) fk out s k i = some (out ++ (segs ((lens n r).drop i) i ps s).1, (segs ((lens n r).drop i) i ps s).2, (nodes.length : Int), (r.Fibers.length : Int)) := by
  have hl := rnodes_short hn ho
  have hnd := (rnodes_facts hn ho).1
  have hns := rnodes_len ho
  intro fk
  induction fk with
  | zero => intro i _ _ _ _ _ h; omega
  | succ fk ih =>
    intro i k ps out s hi hk hkp hdr hol hri h0 h1 hk8
    rw [impl_SegmentLengths_L1]
    by_cases h : i < r.Fibers.length
    · obtain ⟨e1, e2⟩ := fib_at ho h
      have hf := hn.each _ e2
      rw [lens_drop n r h]
      obtain ⟨f, hfe⟩ : ∃ f, f = gd n.Fibers r.Fibers[i].toNat f0 := ⟨_, rfl⟩
      rw [← hfe] at e1 hf
      rw [← hfe]
      have hd : decide ((i : Int) < (r.Fibers.length : Int)) = true := by simpa using h
      simp only [hd, if_true, idx_in h, Option.bind_some, e1, idx_gd (0 : Int) (show i < ns.length by omega)]
      have hnext : ∀ (o : List Int), o.length ≤ i + 1 → w64 (0 + f.Length) = f.Length ∧ w64 (s + f.Length) = s + f.Length := fun o _ => ⟨by rw [w64_in (by omega) (by omega)]; omega, w64_in (by omega) (by omega)⟩
      obtain ⟨hw1, hw2⟩ := hnext [] (by simp)
      rw [hw1, hw2, w64_inc h (by omega)]
      clear hw1 hw2 hnext
      cases ps with
      | nil =>
        have hkl : ¬ ((k : Int) < (nodes.length : Int)) := by simp only [List.length_nil] at hkp; omega
        have hcond : (if decide ((i : Int) > 0) = true then if decide ((k : Int) < (nodes.length : Int)) = true then (idx nodes (k : Int)).bind fun e2 => some (e2 == gd ns i 0) else some false else some false) = some false := by
          rw [if_neg (show ¬ decide ((k : Int) < (nodes.length : Int)) = true by simpa using hkl)]
          split <;> rfl
        rw [hcond, Option.bind_some, segs]
        simp only [Bool.false_eq_true, if_false]
        exact ih (i + 1) k [] out (s + f.Length) h (by omega) hkp hdr (by omega) trivial (by omega) (by omega) hk8
      | cons p ps =>
        obtain ⟨r1, r2, r3⟩ := hri
        simp only [List.length_cons] at hkp
        have hkl : k < nodes.length := by omega
        have hx : idx nodes (k : Int) = some (gd ns p 0) := by
          rw [idx_in hkl]
          rw [← List.getElem_cons_drop hkl] at hdr
          simp only [outN, List.map_cons, List.cons.injEq] at hdr
          rw [hdr.1]
        have hdr2 : nodes.drop (k + 1) = outN ns ps := by
          rw [← List.getElem_cons_drop hkl] at hdr
          simp only [outN, List.map_cons, List.cons.injEq] at hdr
          exact hdr.2
        rw [segs]
        by_cases hpi : p = i
        · subst hpi
          have hi0 : (p : Int) > 0 := by omega
          have hkl' : (k : Int) < (nodes.length : Int) := by omega
          simp only [hi0, hkl', decide_true, if_true, hx, Option.bind_some, beq_self_eq_true, app_ok (show out.length + [s].length ≤ 1099511627776 by simp; omega)]
          rw [w64_inc hkl (by omega)]
          have := ih (p + 1) (k + 1) ps (out ++ [s]) f.Length h (by omega) (by omega) hdr2 (by simp; omega) (by rw [Nat.max_eq_left (by omega)]; exact r3) (by omega) (by omega) hk8
          rw [this]
          simp
        · have hne : (gd ns p 0 == gd ns i 0) = false := by
            rw [beq_eq_false_iff_ne, gd_in 0 (show p < ns.length by omega), gd_in 0 (show i < ns.length by omega)]
            intro he
            exact hpi ((List.getElem_inj hnd).1 he)
          have hcond : (if decide ((i : Int) > 0) = true then if decide ((k : Int) < (nodes.length : Int)) = true then (idx nodes (k : Int)).bind fun e2 => some (e2 == gd ns i 0) else some false else some false) = some false := by
            rw [hx, Option.bind_some, hne]
            split
            · split <;> rfl
            · rfl
          rw [hcond, Option.bind_some, if_neg hpi]
          simp only [Bool.false_eq_true, if_false]
          exact ih (i + 1) k (p :: ps) out (s + f.Length) h (by omega) (by simp only [List.length_cons]; omega) hdr (by omega) ⟨by omega, r2, r3⟩ (by omega) (by omega) hk8
    · obtain rfl : i = r.Fibers.length := by omega
      rw [if_neg (by simp), List.drop_of_length_le (by rw [lens_len]; exact Nat.le_refl _)]
      cases ps with
      | nil =>
        simp only [List.length_nil] at hkp
        have : (k : Int) = (nodes.length : Int) := by omega
        rw [segs, this]
        simp
      | cons p ps =>
        have h1 := hri.1
        have h2 := hri.2.1
        omega
theorem length_at {fu : Nat} (n : Network) (r : Route) {ns : List Int} (hn : NetF n) (ho : rnodes n r = some ns) : ∀ (fk i : Nat) (s : Int), i ≤ r.Fibers.length → r.Fibers.length - i < fk → 0 ≤ s → s ≤ 5000 * (i : Int) → spec_l4Length_L1 fu n r fk s i = some (s + isum ((lens n r).drop i), (r.Fibers.length : Int)) := by
  have hl := rnodes_short hn ho
  intro fk
  induction fk with
  | zero => intro i _ _ h; omega
  | succ fk ih =>
    intro i s hi hk h0 h1
    rw [spec_l4Length_L1]
    by_cases h : i < r.Fibers.length
    · obtain ⟨e1, e2⟩ := fib_at ho h
      have hf := hn.each _ e2
      rw [lens_drop n r h]
      obtain ⟨f, hfe⟩ : ∃ f, f = gd n.Fibers r.Fibers[i].toNat f0 := ⟨_, rfl⟩
      rw [← hfe] at e1 hf
      rw [← hfe]
      have hw2 : w64 (s + f.Length) = s + f.Length := w64_in (by omega) (by omega)
      rw [if_pos (by simpa using h), idx_in h, Option.bind_some, e1, Option.bind_some, hw2, w64_inc h (by omega)]
      clear hw2
      rw [ih (i + 1) (s + f.Length) h (by omega) (by omega) (by omega), isum]
      rw [Int.add_assoc]
    · obtain rfl : i = r.Fibers.length := by omega
      rw [if_neg (by simp), List.drop_of_length_le (by rw [lens_len]; exact Nat.le_refl _)]
      simp [isum]
theorem segments_eq {fu : Nat} (hfu : 2097153 ≤ fu) (n : Network) (r : Route) (hB : NetB n) (hr : r.Fibers.length ≤ 2097152) {ns : List Int} (hv : netOk n = true) (ho : rnodes n r = some ns) (ps : List Nat) (hps : ris r.Fibers.length 1 ps) :
    impl_SegmentLengths fu n r (outN ns ps) = some ((segs (lens n r) 0 ps 0).1 ++ [(segs (lens n r) 0 ps 0).2], true) := by
  have hn := netF hv
  have hl := rnodes_short hn ho
  have hne := (rnodes_facts hn ho).2.2.2.2.1
  have hne' : 1 ≤ r.Fibers.length := List.length_pos_iff.2 hne
  have hpl := ris_len hps hne'
  have hlen : (outN ns ps).length = ps.length := by simp [outN]
  unfold impl_SegmentLengths
  have h := seg_at (fu := fu) n r true hn ho (outN ns ps) fu 0 0 ps [] 0 (by omega) (by omega) (by rw [hlen]; omega) (by simp) (by simp) (by simpa using hps) (by omega) (by omega) (by omega)
  rw [show ((0 : Nat) : Int) = 0 from rfl] at h
  simp only [routeNodes_eq hfu n r hB hr, Option.bind_some, hv, if_true, ho, Bool.not_true, Bool.false_eq_true, if_false, h, Int.lt_irrefl, decide_false, List.nil_append, List.drop_zero]
  have hsl := segs_len (lens n r) 0 ps 0 (by rw [lens_len]; simpa using ris_mono (by omega) hps)
  rw [app_ok (by rw [hsl]; simp; omega)]
  rfl
end AT

namespace AT
theorem repeat_eq {fu : Nat} (hfu : 2097153 ≤ fu) {n : Nat} (h2 : 2 ≤ n) (h8 : n ≤ 8) : slices_Repeat_int_int fu [-1] (n : Int) = some (List.replicate n (-1)) := by
  obtain ⟨k, rfl⟩ : ∃ k, fu = k + 6 := ⟨fu - 6, by omega⟩
  have : n = 2 ∨ n = 3 ∨ n = 4 ∨ n = 5 ∨ n = 6 ∨ n = 7 ∨ n = 8 := by omega
  rcases this with rfl | rfl | rfl | rfl | rfl | rfl | rfl <;> rfl
def setBad (l : List Int) (hi : Int) (i : Nat) : Bool := !(decide (0 ≤ gd l i 0) && decide (gd l i 0 ≤ hi)) || (decide (0 < i) && decide (gd l (i - 1) 0 ≥ gd l i 0))
theorem isSet_eq {fu : Nat} (l : List Int) (n : Int) (h : l.length < fu) (hn : l.length ≤ 2097152) : impl_isSet fu l n = some (!((List.range l.length).any (setBad l (w64 (n - 1))))) := by
  unfold impl_isSet
  rw [scan_all (l := List.range l.length) (G := impl_isSet_L1 fu l n) (setBad l (w64 (n - 1))) (fun i => false) (by simp; omega)
    (fun fk i hi => by
      have hi' : i < l.length := by simpa using hi
      rw [impl_isSet_L1, if_pos (by simpa using hi'), idx_gd 0 hi', List.getElem_range]
      obtain ⟨b1, h1⟩ : ∃ b, b = (decide (0 ≤ gd l i 0) && decide (gd l i 0 ≤ w64 (n - 1))) := ⟨_, rfl⟩
      simp only [Option.bind_some, within_eq, setBad, ← h1]
      cases b1
      · rfl
      by_cases h0 : 0 < i
      · rw [w64_dec h0 (by omega), idx_gd 0 (show i - 1 < l.length by omega)]
        simp [h0]
      · simp [h0])
    (fun fk => by rw [List.length_range, impl_isSet_L1, if_neg (by simp)]) fu (by simpa using h)]
  cases (List.range l.length).any (setBad l (w64 (n - 1))) <;> rfl
theorem idxZ {α : Type} {l : List α} {a : Int} (d : α) (h0 : 0 ≤ a) (h : a < (l.length : Int)) : idx l a = some (gd l a.toNat d) := by
  obtain ⟨k, rfl⟩ : ∃ k : Nat, a = (k : Int) := ⟨a.toNat, by omega⟩
  rw [idx_gd d (by omega), Int.toNat_natCast]
def rel (o : List Int) (a b L : Int) : Bool := decide (0 ≤ gd o a.toNat 0) && (decide (gd o b.toNat 0 < 0) || decide (w64 (gd o a.toNat 0 + L) < gd o b.toNat 0))
def rset (o : List Int) (a b L : Int) : List Int := if rel o a b L then o.set b.toNat (w64 (gd o a.toNat 0 + L)) else o
def stp (s : List Int × Bool) (f : Fiber) : List Int × Bool := (rset (rset s.1 f.A f.B f.Length) f.B f.A f.Length, s.2 || rel s.1 f.A f.B f.Length || rel (rset s.1 f.A f.B f.Length) f.B f.A f.Length)
theorem rset_len (o : List Int) (a b L : Int) : (rset o a b L).length = o.length := by
  unfold rset; split
  · rw [List.length_set]
  · rfl
theorem one_eq {fu fk : Nat} (f : Fiber) (o : List Int) (ch : Bool) (i2 a b : Int) (p : IA 2) (h1 : i2 < 2) (hp : idx [(⟨[f.A, f.B], rfl⟩ : IA 2), (⟨[f.B, f.A], rfl⟩ : IA 2)] i2 = some p) (ga : p.get (0 + 0 * 1) = some a) (gb : p.get (0 + 1 * 1) = some b)
    (ha0 : 0 ≤ a) (ha : a < (o.length : Int)) (hb0 : 0 ≤ b) (hb : b < (o.length : Int)) :
    impl_lengthsFrom_L3 fu f (fk + 1) o ch i2 = impl_lengthsFrom_L3 fu f fk (rset o a b f.Length) (ch || rel o a b f.Length) (w64 (i2 + 1)) := by
  rw [impl_lengthsFrom_L3]
  have hc : decide (i2 < ([(⟨[f.A, f.B], rfl⟩ : IA 2), (⟨[f.B, f.A], rfl⟩ : IA 2)].length : Int)) = true := decide_eq_true h1
  have c0 : chk 0 2 = some 0 := rfl
  have c1 : chk 1 2 = some 1 := rfl
  have xa := idxZ (l := o) 0 ha0 ha
  have xb := idxZ (l := o) 0 hb0 hb
  simp only [hc, if_true, hp, c0, c1, ga, gb, Option.bind_some, xa, xb]
  unfold rset rel
  generalize gd o a.toNat 0 = x
  generalize gd o b.toNat 0 = y
  generalize w64 (x + f.Length) = z
  generalize w64 (i2 + 1) = j
  by_cases hx : 0 ≤ x
  · have e1 : decide (x ≥ 0) = true := decide_eq_true hx
    have e2 : decide (0 ≤ x) = true := decide_eq_true hx
    simp only [e1, e2, if_true, Bool.true_and]
    by_cases hy : y < 0
    · have e3 : decide (y < 0) = true := decide_eq_true hy
      simp only [e3, if_true, Option.bind_some, Bool.true_or, Bool.or_true]
    · have e3 : decide (y < 0) = false := decide_eq_false hy
      have e4 : decide (y > z) = decide (z < y) := rfl
      simp only [e3, Bool.false_eq_true, if_false, Option.bind_some, Bool.false_or, e4]
      cases decide (z < y)
      · simp only [Bool.false_eq_true, if_false, Bool.or_false]
      · simp only [if_true, Bool.or_true]
  · have e1 : decide (x ≥ 0) = false := decide_eq_false hx
    have e2 : decide (0 ≤ x) = false := decide_eq_false hx
    simp only [e1, e2, Bool.false_eq_true, if_false, Bool.false_and, Option.bind_some, Bool.or_false]
theorem two_eq {fu fk : Nat} (f : Fiber) (o : List Int) (ch : Bool) (ha0 : 0 ≤ f.A) (ha : f.A < (o.length : Int)) (hb0 : 0 ≤ f.B) (hb : f.B < (o.length : Int)) :
    impl_lengthsFrom_L3 fu f (fk + 3) o ch 0 = some ((stp (o, ch) f).1, (stp (o, ch) f).2, 2) := by
  rw [one_eq f o ch 0 f.A f.B ⟨[f.A, f.B], rfl⟩ (by omega) rfl rfl rfl ha0 ha hb0 hb]
  rw [show w64 (0 + 1) = 1 from rfl]
  rw [one_eq f _ _ 1 f.B f.A ⟨[f.B, f.A], rfl⟩ (by omega) rfl rfl rfl hb0 (by rw [rset_len]; exact hb) ha0 (by rw [rset_len]; exact ha)]
  rfl
theorem cond_eq (o : List Int) (a b L : Int) (ha0 : 0 ≤ a) (ha : a < (o.length : Int)) (hb0 : 0 ≤ b) (hb : b < (o.length : Int)) :
    ((idx o a).bind fun e3 => if decide (e3 ≥ 0) then (idx o b).bind fun e4 => if decide (e4 < 0) then some true else (idx o a).bind fun e5 => (idx o b).bind fun e6 => some (decide ((w64 (e5 + L)) < e6)) else some false) = some (rel o a b L) := by
  have xa := idxZ (l := o) 0 ha0 ha
  have xb := idxZ (l := o) 0 hb0 hb
  simp only [xa, xb, Option.bind_some]
  unfold rel
  generalize gd o a.toNat 0 = x
  generalize gd o b.toNat 0 = y
  generalize w64 (x + L) = z
  by_cases hx : 0 ≤ x
  · have e1 : decide (x ≥ 0) = true := decide_eq_true hx
    have e2 : decide (0 ≤ x) = true := decide_eq_true hx
    simp only [e1, e2, if_true, Bool.true_and]
    by_cases hy : y < 0
    · have e3 : decide (y < 0) = true := decide_eq_true hy
      simp only [e3, if_true, Bool.true_or]
    · have e3 : decide (y < 0) = false := decide_eq_false hy
      simp only [e3, Bool.false_eq_true, if_false, Bool.false_or]
  · have e1 : decide (x ≥ 0) = false := decide_eq_false hx
    have e2 : decide (0 ≤ x) = false := decide_eq_false hx
    simp only [e1, e2, Bool.false_eq_true, if_false, Bool.false_and]
theorem spec_step {fu fk : Nat} (n : Network) (o : List Int) (m : Bool) {i : Nat} (hi : i < n.Fibers.length) (ha0 : 0 ≤ n.Fibers[i].A) (ha : n.Fibers[i].A < (o.length : Int)) (hb0 : 0 ≤ n.Fibers[i].B) (hb : n.Fibers[i].B < (o.length : Int)) :
    spec_l19From_L3 fu n (fk + 1) o m i = spec_l19From_L3 fu n fk (stp (o, m) n.Fibers[i]).1 (stp (o, m) n.Fibers[i]).2 (w64 ((i : Int) + 1)) := by
  have hi' : (i : Int) < (n.Fibers.length : Int) := by omega
  rw [spec_l19From_L3, if_pos (decide_eq_true hi'), idx_in hi, Option.bind_some]
  generalize n.Fibers[i] = f at ha0 ha hb0 hb
  rw [cond_eq o f.A f.B f.Length ha0 ha hb0 hb, Option.bind_some]
  have xa := idxZ (l := o) 0 ha0 ha
  have xb := idxZ (l := o) 0 hb0 hb
  unfold stp
  simp only
  cases hr : rel o f.A f.B f.Length
  · have e1 : rset o f.A f.B f.Length = o := by unfold rset; rw [hr]; rfl
    rw [if_neg Bool.false_ne_true, cond_eq o f.B f.A f.Length hb0 hb ha0 ha, Option.bind_some, e1]
    cases hr2 : rel o f.B f.A f.Length
    · have e2 : rset o f.B f.A f.Length = o := by unfold rset; rw [hr2]; rfl
      rw [if_neg Bool.false_ne_true, e2, Bool.or_false, Bool.or_false]
    · have e2 : rset o f.B f.A f.Length = o.set f.A.toNat (w64 (gd o f.B.toNat 0 + f.Length)) := by unfold rset; rw [hr2]; rfl
      rw [if_pos rfl, xb, xa, e2, Bool.or_true]; rfl
  · have e1 : rset o f.A f.B f.Length = o.set f.B.toNat (w64 (gd o f.A.toNat 0 + f.Length)) := by unfold rset; rw [hr]; rfl
    rw [if_pos rfl, xa, xb, Option.bind_some, Option.bind_some, ← e1]
    have h1 := rset_len o f.A f.B f.Length
    generalize rset o f.A f.B f.Length = o1 at h1
    have xa := idxZ (l := o1) 0 ha0 (by rw [h1]; exact ha)
    have xb := idxZ (l := o1) 0 hb0 (by rw [h1]; exact hb)
    rw [cond_eq o1 f.B f.A f.Length hb0 (by rw [h1]; exact hb) ha0 (by rw [h1]; exact ha), Option.bind_some]
    cases hr2 : rel o1 f.B f.A f.Length
    · have e2 : rset o1 f.B f.A f.Length = o1 := by unfold rset; rw [hr2]; rfl
      rw [if_neg Bool.false_ne_true, e2, Bool.or_true, Bool.or_false]
    · have e2 : rset o1 f.B f.A f.Length = o1.set f.A.toNat (w64 (gd o1 f.B.toNat 0 + f.Length)) := by unfold rset; rw [hr2]; rfl
      rw [if_pos rfl, xb, xa, e2, Bool.or_true]; rfl
theorem stp_len (s : List Int × Bool) (f : Fiber) : (stp s f).1.length = s.1.length := by unfold stp; simp only [rset_len]
theorem round_impl {fu : Nat} (hfu : 2097153 ≤ fu) (n : Network) (hn : NetF n) : ∀ (fk i : Nat) (s : List Int × Bool), i ≤ n.Fibers.length → n.Fibers.length - i < fk → s.1.length = n.Nodes.length →
    impl_lengthsFrom_L2 fu n fk s.1 s.2 i = some (((n.Fibers.drop i).foldl stp s).1, ((n.Fibers.drop i).foldl stp s).2, (n.Fibers.length : Int)) ∧
    spec_l19From_L3 fu n fk s.1 s.2 i = some (((n.Fibers.drop i).foldl stp s).1, ((n.Fibers.drop i).foldl stp s).2, (n.Fibers.length : Int)) := by
  have hf14 := hn.fib
  intro fk
  induction fk with
  | zero => intro i _ _ h; omega
  | succ fk ih =>
    intro i s hi hk hs
    by_cases h : i < n.Fibers.length
    · have hd : n.Fibers.drop i = n.Fibers[i] :: n.Fibers.drop (i + 1) := (List.getElem_cons_drop h).symm
      have hf := hn.each _ (List.getElem_mem h)
      have hi' : (i : Int) < (n.Fibers.length : Int) := by omega
      obtain ⟨q1, q2⟩ := ih (i + 1) (stp s n.Fibers[i]) h (by omega) (by rw [stp_len]; exact hs)
      rw [hd, List.foldl_cons]
      obtain ⟨k, rfl⟩ : ∃ k, fu = k + 3 := ⟨fu - 3, by omega⟩
      constructor
      · rw [impl_lengthsFrom_L2, if_pos (decide_eq_true hi'), idx_in h, Option.bind_some, two_eq _ _ _ hf.1 (by omega) (by omega) (by omega), Option.bind_some, w64_inc h (by omega)]
        exact q1
      · rw [spec_step n s.1 s.2 h hf.1 (by omega) (by omega) (by omega), w64_inc h (by omega)]
        exact q2
    · obtain rfl : i = n.Fibers.length := by omega
      rw [impl_lengthsFrom_L2, spec_l19From_L3, if_neg (by simp), if_neg (by simp), List.drop_length]
      exact ⟨rfl, rfl⟩
def sumf {α : Type} (h : α → Nat) : List α → Nat
  | [] => 0
  | x :: l => h x + sumf h l
theorem sumf_set {α : Type} (h : α → Nat) (v : α) : ∀ (l : List α) (i : Nat) (hi : i < l.length), sumf h (l.set i v) + h l[i] = sumf h l + h v
  | x :: l, 0, _ => by show h v + sumf h l + h x = h x + sumf h l + h v; omega
  | x :: l, i + 1, hi => by
    have := sumf_set h v l i (by simpa using hi)
    show h x + sumf h (l.set i v) + h (l[i]'(by simpa using hi)) = h x + sumf h l + h v
    omega
theorem sumf_le {α : Type} (h : α → Nat) (m : Nat) : ∀ (l : List α), (∀ x ∈ l, h x ≤ m) → sumf h l ≤ m * l.length
  | [], _ => Nat.le_refl _
  | x :: l, hx => by
    have h1 := hx x (List.mem_cons_self ..)
    have := sumf_le h m l (fun y hy => hx y (List.mem_cons_of_mem _ hy))
    show h x + sumf h l ≤ m * (l.length + 1)
    rw [Nat.mul_add, Nat.mul_one]; omega
def gg (z : Int) : Nat := if z < 0 then 40001 else z.toNat
def cc (z : Int) : Nat := if z < 0 then 0 else 1
structure Inv (N : Nat) (o : List Int) : Prop where
  len : o.length = N
  hi : ∀ x ∈ o, x + 5000 ≤ 5000 * (sumf cc o : Int)
theorem rset_inv {N : Nat} (hN : N ≤ 8) {o : List Int} (h : Inv N o) {a b L : Int} (ha0 : 0 ≤ a) (ha : a < N) (hb0 : 0 ≤ b) (hb : b < N) (hL1 : 1 ≤ L) (hL : L ≤ 5000) :
    Inv N (rset o a b L) ∧ (rel o a b L = false → rset o a b L = o) ∧ (rel o a b L = true → sumf gg (rset o a b L) < sumf gg o) := by
  have hlen := h.len
  have hnn := sumf_le cc 1 o (fun x _ => by unfold cc; split <;> omega)
  cases hr : rel o a b L
  · have e1 : rset o a b L = o := by unfold rset; rw [hr]; rfl
    rw [e1]
    exact ⟨h, fun _ => rfl, fun h => by cases h⟩
  · have e1 : rset o a b L = o.set b.toNat (w64 (gd o a.toNat 0 + L)) := by unfold rset; rw [hr]; rfl
    have hA : a.toNat < o.length := by omega
    have hB : b.toNat < o.length := by omega
    unfold rel at hr
    rw [gd_in 0 hA, gd_in 0 hB] at hr
    rw [gd_in 0 hA] at e1
    have hx := h.hi _ (List.getElem_mem hA)
    have hy := h.hi _ (List.getElem_mem hB)
    have s1 := sumf_set cc (w64 (o[a.toNat] + L)) o b.toNat hB
    have s2 := sumf_set gg (w64 (o[a.toNat] + L)) o b.toNat hB
    rw [e1]
    clear e1
    generalize o[a.toNat] = x at *
    generalize o[b.toNat] = y at *
    simp only [Bool.and_eq_true, Bool.or_eq_true, decide_eq_true_eq] at hr
    obtain ⟨hx0, hr⟩ := hr
    have hw : w64 (x + L) = x + L := w64_in (by omega) (by omega)
    rw [hw] at s1 s2 hr ⊢
    clear hw
    have hv : cc (x + L) = 1 := by unfold cc; rw [if_neg (by omega)]
    have hg : (gg (x + L) : Int) = x + L := by unfold gg; rw [if_neg (by omega)]; omega
    rw [hv] at s1
    have key : (x + L : Int) + 5000 ≤ 5000 * (sumf cc (o.set b.toNat (x + L)) : Int) ∧ sumf cc o ≤ sumf cc (o.set b.toNat (x + L)) ∧ gg (x + L) < gg y := by
      rcases hr with hr | hr
      · have c1 : cc y = 0 := by unfold cc; rw [if_pos hr]
        have c2 : gg y = 40001 := by unfold gg; rw [if_pos hr]
        rw [c1] at s1
        rw [c2]
        omega
      · by_cases hy0 : y < 0
        · omega
        · have c1 : cc y = 1 := by unfold cc; rw [if_neg hy0]
          have c2 : (gg y : Int) = y := by unfold gg; rw [if_neg hy0]; omega
          rw [c1] at s1
          omega
    refine ⟨⟨by rw [List.length_set]; exact hlen, fun z hz => ?_⟩, fun h => (by cases h), fun _ => (by omega)⟩
    rcases List.mem_or_eq_of_mem_set hz with hz | rfl
    · have := h.hi z hz
      omega
    · exact key.1
theorem stp_inv {N : Nat} (hN : N ≤ 8) {s : List Int × Bool} (h : Inv N s.1) {f : Fiber} (ha0 : 0 ≤ f.A) (ha : f.A < N) (hb0 : 0 ≤ f.B) (hb : f.B < N) (hL1 : 1 ≤ f.Length) (hL : f.Length ≤ 5000) :
    Inv N (stp s f).1 ∧ sumf gg (stp s f).1 ≤ sumf gg s.1 ∧ ((stp s f).2 = true → s.2 = true ∨ sumf gg (stp s f).1 < sumf gg s.1) := by
  obtain ⟨a1, a2, a3⟩ := rset_inv hN h ha0 ha hb0 hb hL1 hL
  obtain ⟨b1, b2, b3⟩ := rset_inv hN a1 hb0 hb ha0 ha hL1 hL
  unfold stp
  simp only
  generalize rset (rset s.1 f.A f.B f.Length) f.B f.A f.Length = o2 at *
  generalize rel (rset s.1 f.A f.B f.Length) f.B f.A f.Length = r2 at *
  generalize rset s.1 f.A f.B f.Length = o1 at *
  generalize rel s.1 f.A f.B f.Length = r1 at *
  refine ⟨b1, ?_, ?_⟩
  · cases r1
    · rw [a2 rfl] at b2 b3
      cases r2
      · rw [b2 rfl]; exact Nat.le_refl _
      · exact Nat.le_of_lt (b3 rfl)
    · have := a3 rfl
      cases r2
      · rw [b2 rfl]; omega
      · have := b3 rfl; omega
  · cases s.2
    · cases r1
      · cases r2
        · intro h; cases h
        · intro _; right; rw [a2 rfl] at b3; exact b3 rfl
      · intro _; right
        have := a3 rfl
        cases r2
        · rw [b2 rfl]; exact this
        · have := b3 rfl; omega
    · intro _; exact .inl rfl
theorem fold_inv {N : Nat} (hN : N ≤ 8) : ∀ (fs : List Fiber) (s : List Int × Bool), (∀ f ∈ fs, 0 ≤ f.A ∧ f.A < f.B ∧ f.B < (N : Int) ∧ 1 ≤ f.Length ∧ f.Length ≤ 5000 ∧ 0 ≤ f.Risk ∧ f.Risk ≤ 9) → Inv N s.1 →
    Inv N (fs.foldl stp s).1 ∧ sumf gg (fs.foldl stp s).1 ≤ sumf gg s.1 ∧ ((fs.foldl stp s).2 = true → s.2 = true ∨ sumf gg (fs.foldl stp s).1 < sumf gg s.1)
  | [], s, _, h => ⟨h, Nat.le_refl _, fun h => .inl h⟩
  | f :: fs, s, hf, h => by
    have f1 := hf f (List.mem_cons_self ..)
    obtain ⟨a1, a2, a3⟩ := stp_inv hN h (f := f) f1.1 (by omega) (by omega) (by omega) f1.2.2.2.1 f1.2.2.2.2.1
    obtain ⟨b1, b2, b3⟩ := fold_inv hN fs (stp s f) (fun g hg => hf g (List.mem_cons_of_mem _ hg)) a1
    rw [List.foldl_cons]
    refine ⟨b1, by omega, fun h => ?_⟩
    rcases b3 h with c | c
    · rcases a3 c with d | d
      · exact .inl d
      · exact .inr (by omega)
    · exact .inr (by omega)
theorem rounds {fu : Nat} (hfu : 2097153 ≤ fu) (n : Network) (hn : NetF n) : ∀ (m : Nat) (o : List Int) (fk : Nat), sumf gg o ≤ m → m + 2 ≤ fk → Inv n.Nodes.length o →
    ∃ r, impl_lengthsFrom_L1 fu n fk o true = some (r, false) ∧ spec_l19From_L2 fu n fk o true = some (r, false) ∧ r.length = n.Nodes.length := by
  have hf14 := hn.fib
  intro m
  induction m with
  | zero =>
    intro o fk ho hk hI
    obtain ⟨k, rfl⟩ : ∃ k, fk = k + 2 := ⟨fk - 2, by omega⟩
    obtain ⟨q1, q2⟩ := round_impl hfu n hn fu 0 (o, false) (by omega) (by omega) hI.len
    obtain ⟨p1, p2, p3⟩ := fold_inv hn.hi n.Fibers (o, false) hn.each hI
    rw [List.drop_zero] at q1 q2
    have h0 : ((0 : Nat) : Int) = 0 := rfl
    rw [h0] at q1 q2
    simp only at q1 q2
    rw [impl_lengthsFrom_L1, spec_l19From_L2, if_pos rfl, if_pos rfl, q1, q2, Option.bind_some, Option.bind_some]
    generalize n.Fibers.foldl stp (o, false) = w at *
    cases hw : w.2
    · simp only
      rw [impl_lengthsFrom_L1, spec_l19From_L2]
      exact ⟨w.1, rfl, rfl, p1.len⟩
    · rcases p3 hw with c | c
      · cases c
      · simp only at c; omega
  | succ m ih =>
    intro o fk ho hk hI
    obtain ⟨k, rfl⟩ : ∃ k, fk = k + 2 := ⟨fk - 2, by omega⟩
    obtain ⟨q1, q2⟩ := round_impl hfu n hn fu 0 (o, false) (by omega) (by omega) hI.len
    obtain ⟨p1, p2, p3⟩ := fold_inv hn.hi n.Fibers (o, false) hn.each hI
    rw [List.drop_zero] at q1 q2
    have h0 : ((0 : Nat) : Int) = 0 := rfl
    rw [h0] at q1 q2
    simp only at q1 q2
    rw [impl_lengthsFrom_L1, spec_l19From_L2, if_pos rfl, if_pos rfl, q1, q2, Option.bind_some, Option.bind_some]
    generalize n.Fibers.foldl stp (o, false) = w at *
    cases hw : w.2
    · simp only
      rw [impl_lengthsFrom_L1, spec_l19From_L2]
      exact ⟨w.1, rfl, rfl, p1.len⟩
    · rcases p3 hw with c | c
      · cases c
      · simp only at c
        exact ih w.1 (k + 1) (by omega) (by omega) p1
theorem ones_loop {fu : Nat} (n : Network) (hn : n.Nodes.length ≤ 8) : ∀ (fk i : Nat), i ≤ n.Nodes.length → n.Nodes.length - i < fk → spec_l19From_L1 fu n fk (List.replicate i (-1)) i = some (List.replicate n.Nodes.length (-1), (n.Nodes.length : Int)) := by
  intro fk
  induction fk with
  | zero => intro i _ h; omega
  | succ fk ih =>
    intro i hi hk
    rw [spec_l19From_L1]
    by_cases h : i < n.Nodes.length
    · have hi' : (i : Int) < (n.Nodes.length : Int) := by omega
      rw [if_pos (decide_eq_true hi'), app_ok (by simp; omega), Option.bind_some, w64_inc h (by omega), ← List.replicate_succ']
      exact ih (i + 1) h (by omega)
    · obtain rfl : i = n.Nodes.length := by omega
      rw [if_neg (by simp)]
theorem from_both {fu : Nat} (hfu : 2097153 ≤ fu) (n : Network) (hn : NetF n) {a : Nat} (ha : a < n.Nodes.length) : ∃ r, impl_lengthsFrom fu n a = some r ∧ spec_l19From fu n a = some r ∧ r.length = n.Nodes.length := by
  have h8 := hn.hi
  have hI : Inv n.Nodes.length ((List.replicate n.Nodes.length (-1 : Int)).set a 0) := by
    refine ⟨by simp, fun x hx => ?_⟩
    have s1 := sumf_set cc 0 (List.replicate n.Nodes.length (-1 : Int)) a (by simpa using ha)
    have c1 : cc 0 = 1 := rfl
    have c2 : cc ((List.replicate n.Nodes.length (-1 : Int))[a]'(by simpa using ha)) = 0 := by rw [List.getElem_replicate]; rfl
    rw [c1, c2] at s1
    have hx0 : x ≤ 0 := by
      rcases List.mem_or_eq_of_mem_set hx with hx | rfl
      · have := (List.mem_replicate.1 hx).2; omega
      · exact Int.le_refl _
    omega
  have hp : sumf gg ((List.replicate n.Nodes.length (-1 : Int)).set a 0) ≤ 40001 * ((List.replicate n.Nodes.length (-1 : Int)).set a 0).length := by
    refine sumf_le gg 40001 _ fun x hx => ?_
    rcases List.mem_or_eq_of_mem_set hx with hx | rfl
    · rw [(List.mem_replicate.1 hx).2]; exact Nat.le_refl _
    · show (0 : Nat) ≤ _; omega
  rw [hI.len] at hp
  obtain ⟨r, r1, r2, r3⟩ := rounds hfu n hn 320008 _ fu (by omega) (by omega) hI
  have hs := ones_loop (fu := fu) n h8 fu 0 (by omega) (by omega)
  have hx : idx (List.replicate n.Nodes.length (-1 : Int)) (a : Int) = some (-1) := by rw [idx_in (by simpa using ha), List.getElem_replicate]
  rw [show List.replicate 0 (-1 : Int) = [] from rfl, show ((0 : Nat) : Int) = 0 from rfl] at hs
  unfold impl_lengthsFrom spec_l19From
  rw [repeat_eq hfu hn.lo h8, hs]
  simp only [Option.bind_some, hx, Int.toNat_natCast, r1, r2]
  exact ⟨r, rfl, rfl, r3⟩
end AT
