/- Networks, plainly: names, fibers, validity. -/
import Derived.Test.YtiedecncmihbeaaGreatP1
import Derived.Test.YtiedecncmihbeaaGreatAtL
set_option linter.unusedSimpArgs false
set_option linter.unusedVariables false
namespace AT
/-- A byte of a string, by its place. -/
def chr (s : ByteArray) (i : Nat) : Int := ((s[i]?).map fun b => (b.toNat : Int)).getD 0
theorem sidx_chr {s : ByteArray} {i : Nat} (h : i < s.size) : sidx s (i : Int) = some ⟨chr s i⟩ := by
  have e : s[i]? = some (s[i]'h) := by simp [h]
  unfold sidx chr
  rw [if_pos (by omega), Int.toNat_natCast, e]
  rfl
def isLet (c : Int) : Bool := decide (97 ≤ c) && decide (c ≤ 122)
def isDig (c : Int) : Bool := decide (48 ≤ c) && decide (c ≤ 57)
def sgnBad (s : ByteArray) (i : Nat) : Bool := !(isLet (chr s i) || isDig (chr s i))
def chrBad (s : ByteArray) (i : Nat) : Bool := !isLet (chr s i) && (!isDig (chr s i) || i == 0)
def nameOk (s : ByteArray) : Bool := !((List.range s.size).any (chrBad s)) && (decide (1 ≤ s.size) && decide (s.size ≤ 8))
theorem isName_eq {fu : Nat} (s : ByteArray) (h : s.size < fu) (hn : s.size ≤ 2097152) : impl_isName fu s = some (nameOk s) := by
  unfold impl_isName
  rw [scan_all (l := List.range s.size) (G := impl_isName_L1 fu s) (chrBad s) (fun i => false) (by simp; omega)
    (fun fk i hi => by
      have hi' : i < s.size := by simpa using hi
      rw [impl_isName_L1, if_pos (by simpa using hi'), sidx_chr hi', List.getElem_range]
      simp only [Option.bind_some, chrBad, isLet, isDig, ge_iff_le]
      have e0 : ((i : Int) == 0) = (i == 0) := by rw [Bool.eq_iff_iff]; simp only [beq_iff_eq]; omega
      rw [e0]
      obtain ⟨b, hb⟩ : ∃ b, b = (i == 0) := ⟨_, rfl⟩
      simp only [← hb]
      by_cases h1 : 97 ≤ chr s i <;> by_cases h2 : 48 ≤ chr s i <;> by_cases h3 : chr s i ≤ 122 <;> by_cases h4 : chr s i ≤ 57 <;> cases b <;> simp [h1, h2, h3, h4])
    (fun fk => by rw [List.length_range, impl_isName_L1, if_neg (by simp)]) fu (by simpa using h)]
  unfold nameOk
  have e1 : decide (1 ≤ (s.size : Int)) = decide (1 ≤ s.size) := by simp only [decide_eq_decide]; omega
  have e2 : decide ((s.size : Int) ≤ 8) = decide (s.size ≤ 8) := by simp only [decide_eq_decide]; omega
  cases (List.range s.size).any (chrBad s) <;> simp [Out.on, e1, e2]
theorem l2Sign_eq (fu : Nat) (b : By) : spec_l2Sign fu b = some (isLet b.n || isDig b.n) := by
  unfold spec_l2Sign isLet isDig
  simp only [ge_iff_le]
  by_cases h1 : 97 ≤ b.n <;> by_cases h2 : 48 ≤ b.n <;> by_cases h3 : b.n ≤ 122 <;> by_cases h4 : b.n ≤ 57 <;> simp [h1, h2, h3, h4]
theorem l2Name_eq {fu : Nat} (s : ByteArray) (h : s.size < fu) (hn : s.size ≤ 2097152) : spec_l2Name fu s = some (nameOk s) := by
  unfold spec_l2Name
  have e1 : decide (1 ≤ (s.size : Int)) = decide (1 ≤ s.size) := by simp only [decide_eq_decide]; omega
  have e2 : decide ((s.size : Int) ≤ 8) = decide (s.size ≤ 8) := by simp only [decide_eq_decide]; omega
  simp only [l1In_eq, Option.bind_some, e1, e2]
  unfold nameOk
  by_cases hb : (decide (1 ≤ s.size) && decide (s.size ≤ 8)) = true
  · rw [hb]
    simp only [Bool.and_eq_true, decide_eq_true_eq] at hb
    have h0 : 0 < s.size := by omega
    have hs := sidx_chr h0
    simp only [Int.ofNat_zero, Int.natCast_zero] at hs
    simp only [Bool.not_true, Bool.false_eq_true, if_false, hs, Option.bind_some, Bool.and_true]
    have hl : spec_l2Name_L1 fu s fu 0 = some (if (List.range s.size).any (sgnBad s) then .ret false else .next ((List.range s.size).length : Int)) :=
      scan_all (l := List.range s.size) (G := spec_l2Name_L1 fu s) (sgnBad s) (fun i => false) (by simp; omega)
        (fun fk i hi => by
          have hi' : i < s.size := by simpa using hi
          rw [spec_l2Name_L1, if_pos (by simpa using hi'), sidx_chr hi', List.getElem_range]
          simp only [Option.bind_some, l2Sign_eq, sgnBad]
          rfl)
        (fun fk => by rw [List.length_range, spec_l2Name_L1, if_neg (by simp)]) fu (by simpa using h)
    rw [hl]
    have ha : (List.range s.size).any (chrBad s) = (!isLet (chr s 0) || (List.range s.size).any (sgnBad s)) := by
      rw [Bool.eq_iff_iff]
      simp only [List.any_eq_true, List.mem_range, Bool.or_eq_true, chrBad, sgnBad, Bool.and_eq_true, Bool.not_eq_true', beq_iff_eq, Bool.or_eq_false_iff]
      constructor
      · rintro ⟨i, hi, h1, h2⟩
        rcases h2 with h2 | h2
        · exact .inr ⟨i, hi, h1, h2⟩
        · subst h2; exact .inl h1
      · rintro (h1 | ⟨i, hi, h1, h2⟩)
        · exact ⟨0, h0, h1, .inr rfl⟩
        · exact ⟨i, hi, h1, .inl h2⟩
    rw [ha]
    unfold isLet
    have e3 : decide (chr s 0 < 97) = !decide (97 ≤ chr s 0) := by rw [← decide_not]; simp only [decide_eq_decide]; omega
    have e4 : decide (chr s 0 > 122) = !decide (chr s 0 ≤ 122) := by rw [← decide_not]; simp only [decide_eq_decide]; omega
    simp only [e3, e4]
    cases decide (97 ≤ chr s 0) <;> cases decide (chr s 0 ≤ 122) <;> cases (List.range s.size).any (sgnBad s) <;> rfl
  · rw [Bool.not_eq_true] at hb
    rw [hb]
    simp
/-! ### Lists of names -/
def nm0 : ByteArray := ByteArray.empty
def seen (l : List ByteArray) (i : Nat) : Bool := (l.take i).any fun x => (gd l i nm0).toList == x.toList
theorem beq_symm' {α : Type} [BEq α] [LawfulBEq α] (a b : α) : (a == b) = (b == a) := by
  rw [Bool.eq_iff_iff]; simp only [beq_iff_eq]; exact eq_comm
theorem indexS_eq {fu : Nat} (l : List ByteArray) (v : ByteArray) (h : l.length < fu) (hn : l.length ≤ 2097152) : slices_Index_string_string fu l v = some (if l.any (fun x => v.toList == x.toList) then ((l.findIdx fun x => v.toList == x.toList : Nat) : Int) else -1) := by
  unfold slices_Index_string_string
  rw [scan_all (l := l) (G := slices_Index_string_string_L1 fu l v) (fun x => v.toList == x.toList) (fun i => (i : Int)) (by omega)
    (fun fk i hi => by rw [slices_Index_string_string_L1, if_pos (by simpa using hi), idx_in hi]; rfl)
    (fun fk => by rw [slices_Index_string_string_L1, if_neg (by simp)]) fu h]
  cases l.any (fun x => v.toList == x.toList) <;> rfl
theorem containsS_eq {fu : Nat} (l : List ByteArray) (v : ByteArray) (h : l.length < fu) (hn : l.length ≤ 2097152) : slices_Contains_string_string fu l v = some (l.any fun x => v.toList == x.toList) := by
  unfold slices_Contains_string_string
  rw [indexS_eq l v h hn]
  cases l.any (fun x => v.toList == x.toList)
  · rfl
  · simp
theorem l2Find_eq {fu : Nat} (l : List ByteArray) (v : ByteArray) (h : l.length < fu) (hn : l.length ≤ 2097152) : spec_l2Find fu l v = some (if l.any (fun x => x.toList == v.toList) then ((l.findIdx fun x => x.toList == v.toList : Nat) : Int) else -1) := by
  unfold spec_l2Find
  rw [scan_all (l := l) (G := spec_l2Find_L1 fu l v) (fun x => x.toList == v.toList) (fun i => (i : Int)) (by omega)
    (fun fk i hi => by rw [spec_l2Find_L1, if_pos (by simpa using hi), idx_in hi]; rfl)
    (fun fk => by rw [spec_l2Find_L1, if_neg (by simp)]) fu h]
  cases l.any (fun x => x.toList == v.toList) <;> rfl
theorem sub_take {α : Type} {l : List α} {i : Nat} (h : i ≤ l.length) : sub l 0 (i : Int) = some (l.take i) := by
  unfold sub
  rw [if_pos (by omega)]
  simp
/-- The first place of what stands at i is i, just if it does not stand ahead. -/
theorem findIdx_self {α : Type} {l : List α} {p : α → Bool} {i : Nat} (h : i < l.length) (hp : p l[i] = true) : (l.findIdx p = i) ↔ (l.take i).any p = false := by
  rw [List.findIdx_eq h]
  constructor
  · rintro ⟨-, h2⟩
    rw [Bool.eq_false_iff]
    intro h3
    obtain ⟨x, hx, hpx⟩ := List.any_eq_true.1 h3
    obtain ⟨j, hj, rfl⟩ := List.mem_iff_getElem.1 hx
    simp only [List.length_take] at hj
    rw [List.getElem_take] at hpx
    have := h2 j (by omega)
    rw [hpx] at this
    cases this
  · intro h3
    refine ⟨hp, fun j hj => ?_⟩
    rw [Bool.eq_false_iff]
    intro h4
    rw [Bool.eq_false_iff] at h3
    refine h3 (List.any_eq_true.2 ⟨l[j], ?_, h4⟩)
    refine List.mem_iff_getElem.2 ⟨j, by simp; omega, by rw [List.getElem_take]⟩
def nodeBad (l : List ByteArray) (i : Nat) : Bool := !nameOk (gd l i nm0) || seen l i
/-! ### Fibers -/
def f0 : Fiber := ⟨0, 0, 0, 0⟩
def fibOk (m : Nat) (f : Fiber) : Bool := decide (0 ≤ f.A) && (decide (f.A < f.B) && (decide (f.B < (m : Int)) && ((decide (1 ≤ f.Length) && decide (f.Length ≤ 5000)) && (decide (0 ≤ f.Risk) && decide (f.Risk ≤ 9)))))
def fGt (f g : Fiber) : Bool := decide (g.A < f.A) || (f.A == g.A && (decide (g.B < f.B) || (f.B == g.B && (decide (g.Length < f.Length) || (f.Length == g.Length && decide (g.Risk < f.Risk))))))
def cmpI (x y : Int) : Int := if x < y then -1 else if x > y then 1 else 0
theorem compare_eq (fu : Nat) (x y : Int) : cmp_Compare_int fu x y = some (cmpI x y) := by
  unfold cmp_Compare_int cmp_isNaN_int cmpI
  have e : ∀ z : Int, (z != z) = false := fun z => by simp
  simp only [e, Option.bind_some, Bool.false_eq_true, if_false, decide_eq_true_eq]
  by_cases h : x < y
  · rw [if_pos h, if_pos h]
  · rw [if_neg h, if_neg h]
    split <;> rfl
theorem cmpI_pos (x y : Int) : 0 < cmpI x y ↔ y < x := by unfold cmpI; split <;> (try split) <;> omega
theorem cmpI_zero (x y : Int) : cmpI x y = 0 ↔ x = y := by unfold cmpI; split <;> (try split) <;> omega
def or4 (a b c d : Int) : Int := if a ≠ 0 then a else if b ≠ 0 then b else if c ≠ 0 then c else if d ≠ 0 then d else 0
theorem or_eq {fu : Nat} (a b c d : Int) (h : 4 < fu) : cmp_Or_int fu [a, b, c, d] = some (or4 a b c d) := by
  unfold cmp_Or_int
  rw [scan_all (l := [a, b, c, d]) (G := cmp_Or_int_L1 fu [a, b, c, d]) (fun e => e != 0) (fun i => gd [a, b, c, d] i 0) (by simp)
    (fun fk i hi => by rw [cmp_Or_int_L1, if_pos (by rw [decide_eq_true_eq]; omega), idx_in hi, gd_in 0 hi]; rfl)
    (fun fk => by rw [cmp_Or_int_L1, if_neg (by simp)]) fu (by simpa using h)]
  unfold or4
  have e : ∀ z : Int, (z != 0) = !decide (z = 0) := fun z => by by_cases h : z = 0 <;> simp [h]
  simp only [e]
  by_cases ha : a = 0 <;> by_cases hb : b = 0 <;> by_cases hc : c = 0 <;> by_cases hd : d = 0 <;> simp [ha, hb, hc, hd, List.findIdx_cons, gd, Out.on]
theorem compareFibers_eq {fu : Nat} (f g : Fiber) (h : 4 < fu) : ∃ r, impl_compareFibers fu f g = some r ∧ decide (r > 0) = fGt f g := by
  unfold impl_compareFibers
  simp only [compare_eq, Option.bind_some, or_eq _ _ _ _ h]
  refine ⟨_, rfl, ?_⟩
  rw [Bool.eq_iff_iff]
  simp only [fGt, decide_eq_true_eq, Bool.or_eq_true, Bool.and_eq_true, beq_iff_eq, or4]
  have a1 := cmpI_pos f.A g.A
  have a2 := cmpI_zero f.A g.A
  have b1 := cmpI_pos f.B g.B
  have b2 := cmpI_zero f.B g.B
  have c1 := cmpI_pos f.Length g.Length
  have c2 := cmpI_zero f.Length g.Length
  have d1 := cmpI_pos f.Risk g.Risk
  have d2 := cmpI_zero f.Risk g.Risk
  generalize cmpI f.A g.A = a at *
  generalize cmpI f.B g.B = b at *
  generalize cmpI f.Length g.Length = c at *
  generalize cmpI f.Risk g.Risk = d at *
  split <;> (try split) <;> (try split) <;> (try split) <;> constructor <;> intro h <;> simp only [decide_eq_true_eq] at * <;> omega
def bef (f g : Fiber) : Int := if f.A ≠ g.A then w64 (f.A - g.A) else if f.B ≠ g.B then w64 (f.B - g.B) else if f.Length ≠ g.Length then w64 (f.Length - g.Length) else w64 (f.Risk - g.Risk)
theorem l2Before_eq (fu : Nat) (f g : Fiber) : spec_l2Before fu f g = some (bef f g) := by
  unfold spec_l2Before bef
  by_cases h1 : f.A = g.A
  · by_cases h2 : f.B = g.B
    · by_cases h3 : f.Length = g.Length <;> simp [h1, h2, h3]
    · simp [h1, h2]
  · simp [h1]
theorem bef_gt {m : Nat} {f g : Fiber} (hm : m ≤ 8) (hf : fibOk m f = true) (hg : fibOk m g = true) : decide (bef f g > 0) = fGt f g := by
  simp only [fibOk, Bool.and_eq_true, decide_eq_true_eq] at hf hg
  rw [Bool.eq_iff_iff]
  simp only [fGt, decide_eq_true_eq, Bool.or_eq_true, Bool.and_eq_true, beq_iff_eq]
  unfold bef
  have e1 : w64 (f.A - g.A) = f.A - g.A := w64_in (by omega) (by omega)
  have e2 : w64 (f.B - g.B) = f.B - g.B := w64_in (by omega) (by omega)
  have e3 : w64 (f.Length - g.Length) = f.Length - g.Length := w64_in (by omega) (by omega)
  have e4 : w64 (f.Risk - g.Risk) = f.Risk - g.Risk := w64_in (by omega) (by omega)
  rw [e1, e2, e3, e4]
  clear e1 e2 e3 e4
  split
  · omega
  · split
    · omega
    · split <;> omega
theorem l2Fiber_eq {fu m : Nat} (f : Fiber) (hm : m ≤ 8) : spec_l2Fiber fu f (m : Int) = some (fibOk m f) := by
  unfold spec_l2Fiber
  simp only [l1In_eq, Option.bind_some]
  have e0 : w64 ((m : Int) - 1) = (m : Int) - 1 := w64_in (by omega) (by omega)
  rw [e0]
  unfold fibOk
  by_cases h1 : 0 ≤ f.A
  · by_cases h2 : f.A ≤ (m : Int) - 1
    · have e1 : w64 (f.A + 1) = f.A + 1 := w64_in (by omega) (by omega)
      rw [e1]
      have e2 : decide (f.A + 1 ≤ f.B) = decide (f.A < f.B) := by simp only [decide_eq_decide]; omega
      have e3 : decide (f.B ≤ (m : Int) - 1) = decide (f.B < (m : Int)) := by simp only [decide_eq_decide]; omega
      rw [e2, e3]
      simp only [h1, h2, decide_true, Bool.and_true, if_true, Bool.true_and]
      cases decide (f.A < f.B) <;> cases decide (f.B < (m : Int)) <;> cases decide (1 ≤ f.Length) <;> cases decide (f.Length ≤ 5000) <;> cases decide (0 ≤ f.Risk) <;> cases decide (f.Risk ≤ 9) <;> rfl
    · have : (decide (f.A < f.B) && decide (f.B < (m : Int))) = false := by
        rw [Bool.eq_false_iff]; simp only [ne_eq, Bool.and_eq_true, decide_eq_true_eq]; omega
      rw [← Bool.and_assoc (decide (f.A < f.B)), this]
      simp [h1, h2]
  · simp [h1]
def fibBad (m : Nat) (l : List Fiber) (i : Nat) : Bool := !fibOk m (gd l i f0) || (decide (0 < i) && fGt (gd l (i - 1) f0) (gd l i f0))
def fibBadS (m : Nat) (l : List Fiber) (i : Nat) : Bool := !fibOk m (gd l i f0) || (decide (0 < i) && decide (bef (gd l (i - 1) f0) (gd l i f0) > 0))
theorem fibBad_eq {m : Nat} (l : List Fiber) (hm : m ≤ 8) : (List.range l.length).any (fibBadS m l) = (List.range l.length).any (fibBad m l) := by
  by_cases hv : ∃ i, i < l.length ∧ fibOk m (gd l i f0) = false
  · obtain ⟨i, hi, hb⟩ := hv
    have h1 : (List.range l.length).any (fibBadS m l) = true := List.any_eq_true.2 ⟨i, List.mem_range.2 hi, by simp [fibBadS, hb]⟩
    have h2 : (List.range l.length).any (fibBad m l) = true := List.any_eq_true.2 ⟨i, List.mem_range.2 hi, by simp [fibBad, hb]⟩
    rw [h1, h2]
  · have hv' : ∀ i, i < l.length → fibOk m (gd l i f0) = true := fun i hi => by
      cases h : fibOk m (gd l i f0)
      · exact absurd ⟨i, hi, h⟩ hv
      · rfl
    refine any_same fun i hi => ?_
    have hi' := List.mem_range.1 hi
    unfold fibBadS fibBad
    by_cases h0 : 0 < i
    · rw [bef_gt hm (hv' (i - 1) (by omega)) (hv' i hi')]
    · simp [h0]
/-! ### Networks -/
def netOk (n : Network) : Bool := (decide (2 ≤ n.Nodes.length) && decide (n.Nodes.length ≤ 8)) && (decide (n.Fibers.length ≤ 14) && (!((List.range n.Nodes.length).any (nodeBad n.Nodes)) && !((List.range n.Fibers.length).any (fibBad n.Nodes.length n.Fibers))))
/-- What is known of a network by its size alone. -/
def NetB (n : Network) : Prop := (n.Nodes.length ≤ 2097152 ∧ ∀ e ∈ n.Nodes, e.size ≤ 2097152) ∧ n.Fibers.length ≤ 2097152
theorem gd_mem {α : Type} {l : List α} {i : Nat} (d : α) (h : i < l.length) : gd l i d ∈ l := by rw [gd_in d h]; exact List.getElem_mem _
theorem implNet_eq {fu : Nat} (hfu : 2097153 ≤ fu) (n : Network) (hB : NetB n) : impl_IsValidNetwork fu n = some (netOk n) := by
  obtain ⟨⟨hl, hs⟩, hl2⟩ := hB
  unfold impl_IsValidNetwork
  rw [scan_all (l := List.range n.Nodes.length) (G := impl_IsValidNetwork_L1 fu n) (nodeBad n.Nodes) (fun i => false) (by simp; omega)
    (fun fk i hi => by
      have hi' : i < n.Nodes.length := by simpa using hi
      have hz := hs _ (gd_mem nm0 hi')
      rw [impl_IsValidNetwork_L1, if_pos (by simpa using hi'), idx_gd nm0 hi', List.getElem_range]
      simp only [Option.bind_some, isName_eq _ (show (gd n.Nodes i nm0).size < fu by omega) hz, nodeBad, seen]
      rcases Bool.eq_false_or_eq_true (nameOk (gd n.Nodes i nm0)) with h1 | h1
      · rw [sub_take (by omega)]
        simp only [h1, Bool.not_true, Bool.false_eq_true, if_false, Option.bind_some, containsS_eq _ _ (show (n.Nodes.take i).length < fu by simp; omega) (by simp; omega), Bool.false_or]
      · simp [h1])
    (fun fk => by rw [List.length_range, impl_IsValidNetwork_L1, if_neg (by simp)]) fu (by simp; omega)]
  rw [scan_all (l := List.range n.Fibers.length) (G := impl_IsValidNetwork_L2 fu n) (fibBad n.Nodes.length n.Fibers) (fun i => false) (by simp; omega)
    (fun fk i hi => by
      have hi' : i < n.Fibers.length := by simpa using hi
      rw [impl_IsValidNetwork_L2, if_pos (by simpa using hi'), idx_gd f0 hi', List.getElem_range]
      simp only [Option.bind_some, within_eq, fibBad, fibOk]
      obtain ⟨x, hx⟩ : ∃ x, x = gd n.Fibers i f0 := ⟨_, rfl⟩
      simp only [← hx]
      have a1 : decide (x.A < 0) = !decide (0 ≤ x.A) := by rw [← decide_not]; simp only [decide_eq_decide]; omega
      have a2 : decide (x.A ≥ x.B) = !decide (x.A < x.B) := by rw [← decide_not]; simp only [decide_eq_decide]; omega
      have a3 : decide (x.B ≥ (n.Nodes.length : Int)) = !decide (x.B < (n.Nodes.length : Int)) := by rw [← decide_not]; simp only [decide_eq_decide]; omega
      simp only [a1, a2, a3]
      by_cases b1 : (decide (0 ≤ x.A)) = false
      · simp [b1]
      rw [Bool.not_eq_false] at b1
      by_cases b2 : (decide (x.A < x.B)) = false
      · simp [b1, b2]
      rw [Bool.not_eq_false] at b2
      by_cases b3 : (decide (x.B < (n.Nodes.length : Int))) = false
      · simp [b1, b2, b3]
      rw [Bool.not_eq_false] at b3
      by_cases b4 : (decide (1 ≤ x.Length) && decide (x.Length ≤ 5000)) = false
      · simp only [b1, b2, b3, b4]; simp
      rw [Bool.not_eq_false] at b4
      by_cases b5 : (decide (0 ≤ x.Risk) && decide (x.Risk ≤ 9)) = false
      · simp only [b1, b2, b3, b4, b5]; simp
      rw [Bool.not_eq_false] at b5
      simp only [b1, b2, b3, b4, b5]
      by_cases h0 : 0 < i
      · rw [w64_dec h0 (by omega), idx_gd f0 (show i - 1 < n.Fibers.length by omega)]
        obtain ⟨r, h1, h2⟩ := compareFibers_eq (fu := fu) (gd n.Fibers (i - 1) f0) x (by omega)
        have h0' : ((i : Int) > 0) := by omega
        simp [h0, h1, h2, h0']
      · have h0' : ¬ ((i : Int) > 0) := by omega
        simp [h0, h0'])
    (fun fk => by rw [List.length_range, impl_IsValidNetwork_L2, if_neg (by simp)]) fu (by simp; omega)]
  unfold netOk
  have e1 : decide (2 ≤ (n.Nodes.length : Int)) = decide (2 ≤ n.Nodes.length) := by simp only [decide_eq_decide]; omega
  have e2 : decide ((n.Nodes.length : Int) ≤ 8) = decide (n.Nodes.length ≤ 8) := by simp only [decide_eq_decide]; omega
  have e3 : decide ((n.Fibers.length : Int) ≤ 14) = decide (n.Fibers.length ≤ 14) := by simp only [decide_eq_decide]; omega
  simp only [within_eq, e1, e2, e3]
  cases (List.range n.Nodes.length).any (nodeBad n.Nodes) <;> cases (List.range n.Fibers.length).any (fibBad n.Nodes.length n.Fibers) <;> cases decide (2 ≤ n.Nodes.length) <;> cases decide (n.Nodes.length ≤ 8) <;> cases decide (n.Fibers.length ≤ 14) <;> rfl
theorem specNet_eq {fu : Nat} (hfu : 2097153 ≤ fu) (n : Network) (hB : NetB n) : spec_l2Good fu n = some (netOk n) := by
  obtain ⟨⟨hl, hs⟩, hl2⟩ := hB
  unfold spec_l2Good netOk
  have e1 : decide (2 ≤ (n.Nodes.length : Int)) = decide (2 ≤ n.Nodes.length) := by simp only [decide_eq_decide]; omega
  have e2 : decide ((n.Nodes.length : Int) ≤ 8) = decide (n.Nodes.length ≤ 8) := by simp only [decide_eq_decide]; omega
  have e3 : decide ((n.Fibers.length : Int) > 14) = !decide (n.Fibers.length ≤ 14) := by rw [← decide_not]; simp only [decide_eq_decide]; omega
  simp only [l1In_eq, e1, e2, e3, Option.bind_some]
  cases hb : (decide (2 ≤ n.Nodes.length) && decide (n.Nodes.length ≤ 8))
  · rfl
  cases hc : decide (n.Fibers.length ≤ 14)
  · rfl
  simp only [Bool.and_eq_true, decide_eq_true_eq] at hb hc
  rw [scan_all (l := List.range n.Nodes.length) (G := spec_l2Good_L1 fu n) (nodeBad n.Nodes) (fun i => false) (by simp; omega)
    (fun fk i hi => by
      have hi' : i < n.Nodes.length := by simpa using hi
      have hz := hs _ (gd_mem nm0 hi')
      rw [spec_l2Good_L1, if_pos (by simpa using hi'), idx_gd nm0 hi', List.getElem_range]
      simp only [Option.bind_some, l2Name_eq _ (show (gd n.Nodes i nm0).size < fu by omega) hz, nodeBad, seen]
      by_cases h1 : (nameOk (gd n.Nodes i nm0)) = false
      · simp [h1]
      rw [Bool.not_eq_false] at h1
      · have hp : (fun x : ByteArray => x.toList == (gd n.Nodes i nm0).toList) n.Nodes[i] = true := by simp [gd_in nm0 hi']
        have ha : n.Nodes.any (fun x => x.toList == (gd n.Nodes i nm0).toList) = true := List.any_eq_true.2 ⟨_, List.getElem_mem hi', hp⟩
        have hfi := findIdx_self (p := fun x : ByteArray => x.toList == (gd n.Nodes i nm0).toList) hi' hp
        have hsy : (n.Nodes.take i).any (fun x => (gd n.Nodes i nm0).toList == x.toList) = (n.Nodes.take i).any (fun x => x.toList == (gd n.Nodes i nm0).toList) := any_same fun x _ => beq_symm' _ _
        simp only [h1, Bool.not_true, Bool.false_eq_true, if_false, Option.bind_some, l2Find_eq _ _ (show n.Nodes.length < fu by omega) hl, ha, if_true, Bool.false_or, hsy]
        have he : (((n.Nodes.findIdx fun x => x.toList == (gd n.Nodes i nm0).toList : Nat) : Int) != (i : Int)) = (n.Nodes.take i).any (fun x => x.toList == (gd n.Nodes i nm0).toList) := by
          rw [Bool.eq_iff_iff]
          simp only [bne_iff_ne, ne_eq, Int.natCast_inj, hfi, Bool.not_eq_false]
        rw [he])
    (fun fk => by rw [List.length_range, spec_l2Good_L1, if_neg (by simp)]) fu (by simp; omega)]
  rw [scan_all (l := List.range n.Fibers.length) (G := spec_l2Good_L2 fu n) (fibBadS n.Nodes.length n.Fibers) (fun i => false) (by simp; omega)
    (fun fk i hi => by
      have hi' : i < n.Fibers.length := by simpa using hi
      rw [spec_l2Good_L2, if_pos (by simpa using hi'), idx_gd f0 hi', List.getElem_range]
      simp only [Option.bind_some, l2Fiber_eq _ hb.2, fibBadS]
      by_cases h1 : (fibOk n.Nodes.length (gd n.Fibers i f0)) = false
      · simp [h1]
      rw [Bool.not_eq_false] at h1
      simp only [h1]
      by_cases h0 : 0 < i
      · rw [w64_dec h0 (by omega), idx_gd f0 (show i - 1 < n.Fibers.length by omega)]
        have h0' : ((i : Int) > 0) := by omega
        simp [h0, l2Before_eq, h0']
      · have h0' : ¬ ((i : Int) > 0) := by omega
        simp [h0, h0'])
    (fun fk => by rw [List.length_range, spec_l2Good_L2, if_neg (by simp)]) fu (by simp; omega), fibBad_eq _ hb.2]
  cases (List.range n.Nodes.length).any (nodeBad n.Nodes) <;> cases (List.range n.Fibers.length).any (fibBad n.Nodes.length n.Fibers) <;> rfl
structure NetF (n : Network) : Prop where
  lo : 2 ≤ n.Nodes.length
  hi : n.Nodes.length ≤ 8
  fib : n.Fibers.length ≤ 14
  each : ∀ f ∈ n.Fibers, 0 ≤ f.A ∧ f.A < f.B ∧ f.B < (n.Nodes.length : Int) ∧ 1 ≤ f.Length ∧ f.Length ≤ 5000 ∧ 0 ≤ f.Risk ∧ f.Risk ≤ 9
theorem netF {n : Network} (h : netOk n = true) : NetF n := by
  unfold netOk at h
  simp only [Bool.and_eq_true, decide_eq_true_eq, Bool.not_eq_true'] at h
  obtain ⟨⟨h1, h2⟩, h3, h4, h5⟩ := h
  refine ⟨h1, h2, h3, fun f hf => ?_⟩
  obtain ⟨i, hi, rfl⟩ := List.mem_iff_getElem.1 hf
  rw [Bool.eq_false_iff] at h5
  have h6 : fibBad n.Nodes.length n.Fibers i = false := by
    rw [Bool.eq_false_iff]
    intro h7
    exact h5 (List.any_eq_true.2 ⟨i, List.mem_range.2 hi, h7⟩)
  unfold fibBad at h6
  rw [Bool.or_eq_false_iff] at h6
  have h8 := h6.1
  rw [gd_in f0 hi] at h8
  simp only [Bool.not_eq_false', fibOk, Bool.and_eq_true, decide_eq_true_eq] at h8
  omega
end AT

