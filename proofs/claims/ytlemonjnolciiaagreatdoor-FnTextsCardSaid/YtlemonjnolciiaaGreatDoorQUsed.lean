/- Networks, plainly: names, fibers, validity. -/
import Derived.Test.YtlemonjnolciiaaGreatDoorP1
import Derived.Test.YtlemonjnolciiaaGreatDoorAtL
import Derived.Test.YtlemonjnolciiaaGreatDoorQTx0
set_option linter.unusedSimpArgs false
set_option linter.unusedVariables false
namespace AT
def chr (s : ByteArray) (i : Nat) : Int := ((s[i]?).map fun b => (b.toNat : Int)).getD 0
theorem sidx_chr {s : ByteArray} {i : Nat} (h : i < s.size) : sidx s (i : Int) = some ⟨chr s i⟩ := by
  have e : s[i]? = some (s[i]'h) := by simp [h]
  unfold sidx chr
  rw [if_pos (by omega), Int.toNat_natCast, e]
  rfl
def isLet (c : Int) : Bool := decide (97 ≤ c) && decide (c ≤ 122)
def isDig (c : Int) : Bool := decide (48 ≤ c) && decide (c ≤ 57)
def sgnBad (s : ByteArray) (i : Nat) : Bool := !(isLet (chr s i) || isDig (chr s i))
def chrBad (s : ByteArray) (i : Nat) : Bool := !isLet (chr s i) && (!isDig (chr s i) || i == 0)
def nameOk (s : ByteArray) : Bool := !((List.range s.size).any (chrBad s)) && (decide (1 ≤ s.size) && decide (s.size ≤ 8))
theorem isName_eq {fu : Nat} (s : ByteArray) (h : s.size < fu) (hn : s.size ≤ 2097152) : impl_isName fu s = some (nameOk s) := by
  unfold impl_isName
  rw [scan_all (l := List.range s.size) (G := impl_isName_L1 fu s) (chrBad s) (fun i => false) (by simp; omega)
    (fun fk i hi => by
      have hi' : i < s.size := by simpa using hi
      rw [impl_isName_L1, if_pos (by simpa using hi'), sidx_chr hi', List.getElem_range]
      simp only [Option.bind_some, chrBad, isLet, isDig, ge_iff_le]
      have e0 : ((i : Int) == 0) = (i == 0) := by rw [Bool.eq_iff_iff]; simp only [beq_iff_eq]; omega
      rw [e0]
      obtain ⟨b, hb⟩ : ∃ b, b = (i == 0) := ⟨_, rfl⟩
      simp only [← hb]
      by_cases h1 : 97 ≤ chr s i <;> by_cases h2 : 48 ≤ chr s i <;> by_cases h3 : chr s i ≤ 122 <;> by_cases h4 : chr s i ≤ 57 <;> cases b <;> simp [h1, h2, h3, h4])
    (fun fk => by rw [List.length_range, impl_isName_L1, if_neg (by simp)]) fu (by simpa using h)]
  unfold nameOk
  have e1 : decide (1 ≤ (s.size : Int)) = decide (1 ≤ s.size) := by simp only [decide_eq_decide]; omega
  have e2 : decide ((s.size : Int) ≤ 8) = decide (s.size ≤ 8) := by simp only [decide_eq_decide]; omega
  cases (List.range s.size).any (chrBad s) <;> simp [Out.on, e1, e2]
theorem l2Sign_eq (fu : Nat) (b : By) : spec_l2Sign fu b = some (isLet b.n || isDig b.n) := by
  unfold spec_l2Sign isLet isDig
  simp only [ge_iff_le]
  by_cases h1 : 97 ≤ b.n <;> by_cases h2 : 48 ≤ b.n <;> by_cases h3 : b.n ≤ 122 <;> by_cases h4 : b.n ≤ 57 <;> simp [h1, h2, h3, h4]
theorem l2Name_eq {fu : Nat} (s : ByteArray) (h : s.size < fu) (hn : s.size ≤ 2097152) : spec_l2Name fu s = some (nameOk s) := by
  unfold spec_l2Name
  have e1 : decide (1 ≤ (s.size : Int)) = decide (1 ≤ s.size) := by simp only [decide_eq_decide]; omega
  have e2 : decide ((s.size : Int) ≤ 8) = decide (s.size ≤ 8) := by simp only [decide_eq_decide]; omega
  simp only [l1In_eq, Option.bind_some, e1, e2]
  unfold nameOk
  by_cases hb : (decide (1 ≤ s.size) && decide (s.size ≤ 8)) = true
  · rw [hb]
    simp only [Bool.and_eq_true, decide_eq_true_eq] at hb
    have h0 : 0 < s.size := by omega
    have hs := sidx_chr h0
    simp only [Int.ofNat_zero, Int.natCast_zero] at hs
    simp only [Bool.not_true, Bool.false_eq_true, if_false, hs, Option.bind_some, Bool.and_true]
    have hl : spec_l2Name_L1 fu s fu 0 = some (if (List.range s.size).any (sgnBad s) then .ret false else .next ((List.range s.size).length : Int)) :=
      scan_all (l := List.range s.size) (G := spec_l2Name_L1 fu s) (sgnBad s) (fun i => false) (by simp; omega)
        (fun fk i hi => by
          have hi' : i < s.size := by simpa using hi
          rw [spec_l2Name_L1, if_pos (by simpa using hi'), sidx_chr hi', List.getElem_range]
          simp only [Option.bind_some, l2Sign_eq, sgnBad]
          rfl)
        (fun fk => by rw [List.length_range, spec_l2Name_L1, if_neg (by simp)]) fu (by simpa using h)
    rw [hl]
    have ha : (List.range s.size).any (chrBad s) = (!isLet (chr s 0) || (List.range s.size).any (sgnBad s)) := by
      rw [Bool.eq_iff_iff]
      simp only [List.any_eq_true, List.mem_range, Bool.or_eq_true, chrBad, sgnBad, Bool.and_eq_true, Bool.not_eq_true', beq_iff_eq, Bool.or_eq_false_iff]
      constructor
      · rintro ⟨i, hi, h1, h2⟩
        rcases h2 with h2 | h2
        · exact .inr ⟨i, hi, h1, h2⟩
        · subst h2; exact .inl h1
      · rintro (h1 | ⟨i, hi, h1, h2⟩)
        · exact ⟨0, h0, h1, .inr rfl⟩
        · exact ⟨i, hi, h1, .inl h2⟩
    rw [ha]
    unfold isLet
    have e3 : decide (chr s 0 < 97) = !decide (97 ≤ chr s 0) := by rw [← decide_not]; simp only [decide_eq_decide]; omega
    have e4 : decide (chr s 0 > 122) = !decide (chr s 0 ≤ 122) := by rw [← decide_not]; simp only [decide_eq_decide]; omega
    simp only [e3, e4]
    cases decide (97 ≤ chr s 0) <;> cases decide (chr s 0 ≤ 122) <;> cases (List.range s.size).any (sgnBad s) <;> rfl
  · rw [Bool.not_eq_true] at hb
    rw [hb]
    simp
def nm0 : ByteArray := ByteArray.empty
def seen (l : List ByteArray) (i : Nat) : Bool := (l.take i).any fun x => (gd l i nm0).toList == x.toList
theorem beq_symm' {α : Type} [BEq α] [LawfulBEq α] (a b : α) : (a == b) = (b == a) := by
  rw [Bool.eq_iff_iff]; simp only [beq_iff_eq]; exact eq_comm
theorem indexS_eq {fu : Nat} (l : List ByteArray) (v : ByteArray) (h : l.length < fu) (hn : l.length ≤ 2097152) : slices_Index_string_string fu l v = some (if l.any (fun x => v.toList == x.toList) then ((l.findIdx fun x => v.toList == x.toList : Nat) : Int) else -1) := by
  unfold slices_Index_string_string
  rw [scan_all (l := l) (G := slices_Index_string_string_L1 fu l v) (fun x => v.toList == x.toList) (fun i => (i : Int)) (by omega)
    (fun fk i hi => by rw [slices_Index_string_string_L1, if_pos (by simpa using hi), idx_in hi]; rfl)
    (fun fk => by rw [slices_Index_string_string_L1, if_neg (by simp)]) fu h]
  cases l.any (fun x => v.toList == x.toList) <;> rfl
theorem containsS_eq {fu : Nat} (l : List ByteArray) (v : ByteArray) (h : l.length < fu) (hn : l.length ≤ 2097152) : slices_Contains_string_string fu l v = some (l.any fun x => v.toList == x.toList) := by
  unfold slices_Contains_string_string
  rw [indexS_eq l v h hn]
  cases l.any (fun x => v.toList == x.toList)
  · rfl
  · simp
theorem l2Find_eq {fu : Nat} (l : List ByteArray) (v : ByteArray) (h : l.length < fu) (hn : l.length ≤ 2097152) : spec_l2Find fu l v = some (if l.any (fun x => x.toList == v.toList) then ((l.findIdx fun x => x.toList == v.toList : Nat) : Int) else -1) := by
  unfold spec_l2Find
  rw [scan_all (l := l) (G := spec_l2Find_L1 fu l v) (fun x => x.toList == v.toList) (fun i => (i : Int)) (by omega)
    (fun fk i hi => by rw [spec_l2Find_L1, if_pos (by simpa using hi), idx_in hi]; rfl)
    (fun fk => by rw [spec_l2Find_L1, if_neg (by simp)]) fu h]
  cases l.any (fun x => x.toList == v.toList) <;> rfl
theorem sub_take {α : Type} {l : List α} {i : Nat} (h : i ≤ l.length) : sub l 0 (i : Int) = some (l.take i) := by
  unfold sub
  rw [if_pos (by omega)]
  simp
theorem findIdx_self {α : Type} {l : List α} {p : α → Bool} {i : Nat} (h : i < l.length) (hp : p l[i] = true) : (l.findIdx p = i) ↔ (l.take i).any p = false := by
  rw [List.findIdx_eq h]
  constructor
  · rintro ⟨-, h2⟩
    rw [Bool.eq_false_iff]
    intro h3
    obtain ⟨x, hx, hpx⟩ := List.any_eq_true.1 h3
    obtain ⟨j, hj, rfl⟩ := List.mem_iff_getElem.1 hx
    simp only [List.length_take] at hj
    rw [List.getElem_take] at hpx
    have := h2 j (by omega)
    rw [hpx] at this
    cases this
  · intro h3
    refine ⟨hp, fun j hj => ?_⟩
    rw [Bool.eq_false_iff]
    intro h4
    rw [Bool.eq_false_iff] at h3
    refine h3 (List.any_eq_true.2 ⟨l[j], ?_, h4⟩)
    refine List.mem_iff_getElem.2 ⟨j, by simp; omega, by rw [List.getElem_take]⟩
def nodeBad (l : List ByteArray) (i : Nat) : Bool := !nameOk (gd l i nm0) || seen l i
def f0 : Fiber := ⟨0, 0, 0, 0⟩
def fibOk (m : Nat) (f : Fiber) : Bool := decide (0 ≤ f.A) && (decide (f.A < f.B) && (decide (f.B < (m : Int)) && ((decide (1 ≤ f.Length) && decide (f.Length ≤ 5000)) && (decide (0 ≤ f.Risk) && decide (f.Risk ≤ 9)))))
def fGt (f g : Fiber) : Bool := decide (g.A < f.A) || (f.A == g.A && (decide (g.B < f.B) || (f.B == g.B && (decide (g.Length < f.Length) || (f.Length == g.Length && decide (g.Risk < f.Risk))))))
def cmpI (x y : Int) : Int := if x < y then -1 else if x > y then 1 else 0
theorem compare_eq (fu : Nat) (x y : Int) : cmp_Compare_int fu x y = some (cmpI x y) := by
  unfold cmp_Compare_int cmp_isNaN_int cmpI
  have e : ∀ z : Int, (z != z) = false := fun z => by simp
  simp only [e, Option.bind_some, Bool.false_eq_true, if_false, decide_eq_true_eq]
  by_cases h : x < y
  · rw [if_pos h, if_pos h]
  · rw [if_neg h, if_neg h]
    split <;> rfl
theorem cmpI_pos (x y : Int) : 0 < cmpI x y ↔ y < x := by unfold cmpI; split <;> (try split) <;> omega
theorem cmpI_zero (x y : Int) : cmpI x y = 0 ↔ x = y := by unfold cmpI; split <;> (try split) <;> omega
def or4 (a b c d : Int) : Int := if a ≠ 0 then a else if b ≠ 0 then b else if c ≠ 0 then c else if d ≠ 0 then d else 0
theorem or_eq {fu : Nat} (a b c d : Int) (h : 4 < fu) : cmp_Or_int fu [a, b, c, d] = some (or4 a b c d) := by
  unfold cmp_Or_int
  rw [scan_all (l := [a, b, c, d]) (G := cmp_Or_int_L1 fu [a, b, c, d]) (fun e => e != 0) (fun i => gd [a, b, c, d] i 0) (by simp)
    (fun fk i hi => by rw [cmp_Or_int_L1, if_pos (by rw [decide_eq_true_eq]; omega), idx_in hi, gd_in 0 hi]; rfl)
    (fun fk => by rw [cmp_Or_int_L1, if_neg (by simp)]) fu (by simpa using h)]
  unfold or4
  have e : ∀ z : Int, (z != 0) = !decide (z = 0) := fun z => by by_cases h : z = 0 <;> simp [h]
  simp only [e]
  by_cases ha : a = 0 <;> by_cases hb : b = 0 <;> by_cases hc : c = 0 <;> by_cases hd : d = 0 <;> simp [ha, hb, hc, hd, List.findIdx_cons, gd, Out.on]
theorem compareFibers_eq {fu : Nat} (f g : Fiber) (h : 4 < fu) : ∃ r, impl_compareFibers fu f g = some r ∧ decide (r > 0) = fGt f g := by
  unfold impl_compareFibers
  simp only [compare_eq, Option.bind_some, or_eq _ _ _ _ h]
  refine ⟨_, rfl, ?_⟩
  rw [Bool.eq_iff_iff]
  simp only [fGt, decide_eq_true_eq, Bool.or_eq_true, Bool.and_eq_true, beq_iff_eq, or4]
  have a1 := cmpI_pos f.A g.A
  have a2 := cmpI_zero f.A g.A
  have b1 := cmpI_pos f.B g.B
  have b2 := cmpI_zero f.B g.B
  have c1 := cmpI_pos f.Length g.Length
  have c2 := cmpI_zero f.Length g.Length
  have d1 := cmpI_pos f.Risk g.Risk
  have d2 := cmpI_zero f.Risk g.Risk
  generalize cmpI f.A g.A = a at *
  generalize cmpI f.B g.B = b at *
  generalize cmpI f.Length g.Length = c at *
  generalize cmpI f.Risk g.Risk = d at *
  split <;> (try split) <;> (try split) <;> (try split) <;> constructor <;> intro h <;> simp only [decide_eq_true_eq] at * <;> omega
def bef (f g : Fiber) : Int := if f.A ≠ g.A then w64 (f.A - g.A) else if f.B ≠ g.B then w64 (f.B - g.B) else if f.Length ≠ g.Length then w64 (f.Length - g.Length) else w64 (f.Risk - g.Risk)
theorem l2Before_eq (fu : Nat) (f g : Fiber) : spec_l2Before fu f g = some (bef f g) := by
  unfold spec_l2Before bef
  by_cases h1 : f.A = g.A
  · by_cases h2 : f.B = g.B
    · by_cases h3 : f.Length = g.Length <;> simp [h1, h2, h3]
    · simp [h1, h2]
  · simp [h1]
theorem bef_gt {m : Nat} {f g : Fiber} (hm : m ≤ 8) (hf : fibOk m f = true) (hg : fibOk m g = true) : decide (bef f g > 0) = fGt f g := by
  simp only [fibOk, Bool.and_eq_true, decide_eq_true_eq] at hf hg
  rw [Bool.eq_iff_iff]
  simp only [fGt, decide_eq_true_eq, Bool.or_eq_true, Bool.and_eq_true, beq_iff_eq]
  unfold bef
  have e1 : w64 (f.A - g.A) = f.A - g.A := w64_in (by omega) (by omega)
  have e2 : w64 (f.B - g.B) = f.B - g.B := w64_in (by omega) (by omega)
  have e3 : w64 (f.Length - g.Length) = f.Length - g.Length := w64_in (by omega) (by omega)
  have e4 : w64 (f.Risk - g.Risk) = f.Risk - g.Risk := w64_in (by omega) (by omega)
  rw [e1, e2, e3, e4]
  clear e1 e2 e3 e4
  split
  · omega
  · split
    · omega
    · split <;> omega
theorem l2Fiber_eq {fu m : Nat} (f : Fiber) (hm : m ≤ 8) : spec_l2Fiber fu f (m : Int) = some (fibOk m f) := by
  unfold spec_l2Fiber
  simp only [l1In_eq, Option.bind_some]
  have e0 : w64 ((m : Int) - 1) = (m : Int) - 1 := w64_in (by omega) (by omega)
  rw [e0]
  unfold fibOk
  by_cases h1 : 0 ≤ f.A
  · by_cases h2 : f.A ≤ (m : Int) - 1
    · have e1 : w64 (f.A + 1) = f.A + 1 := w64_in (by omega) (by omega)
      rw [e1]
      have e2 : decide (f.A + 1 ≤ f.B) = decide (f.A < f.B) := by simp only [decide_eq_decide]; omega
      have e3 : decide (f.B ≤ (m : Int) - 1) = decide (f.B < (m : Int)) := by simp only [decide_eq_decide]; omega
      rw [e2, e3]
      simp only [h1, h2, decide_true, Bool.and_true, if_true, Bool.true_and]
      cases decide (f.A < f.B) <;> cases decide (f.B < (m : Int)) <;> cases decide (1 ≤ f.Length) <;> cases decide (f.Length ≤ 5000) <;> cases decide (0 ≤ f.Risk) <;> cases decide (f.Risk ≤ 9) <;> rfl
    · have : (decide (f.A < f.B) && decide (f.B < (m : Int))) = false := by
        rw [Bool.eq_false_iff]; simp only [ne_eq, Bool.and_eq_true, decide_eq_true_eq]; omega
      rw [← Bool.and_assoc (decide (f.A < f.B)), this]
      simp [h1, h2]
  · simp [h1]
def fibBad (m : Nat) (l : List Fiber) (i : Nat) : Bool := !fibOk m (gd l i f0) || (decide (0 < i) && fGt (gd l (i - 1) f0) (gd l i f0))
def fibBadS (m : Nat) (l : List Fiber) (i : Nat) : Bool := !fibOk m (gd l i f0) || (decide (0 < i) && decide (bef (gd l (i - 1) f0) (gd l i f0) > 0))
theorem fibBad_eq {m : Nat} (l : List Fiber) (hm : m ≤ 8) : (List.range l.length).any (fibBadS m l) = (List.range l.length).any (fibBad m l) := by
  by_cases hv : ∃ i, i < l.length ∧ fibOk m (gd l i f0) = false
  · obtain ⟨i, hi, hb⟩ := hv
    have h1 : (List.range l.length).any (fibBadS m l) = true := List.any_eq_true.2 ⟨i, List.mem_range.2 hi, by simp [fibBadS, hb]⟩
    have h2 : (List.range l.length).any (fibBad m l) = true := List.any_eq_true.2 ⟨i, List.mem_range.2 hi, by simp [fibBad, hb]⟩
    rw [h1, h2]
  · have hv' : ∀ i, i < l.length → fibOk m (gd l i f0) = true := fun i hi => by
      cases h : fibOk m (gd l i f0)
      · exact absurd ⟨i, hi, h⟩ hv
      · rfl
    refine any_same fun i hi => ?_
    have hi' := List.mem_range.1 hi
    unfold fibBadS fibBad
    by_cases h0 : 0 < i
    · rw [bef_gt hm (hv' (i - 1) (by omega)) (hv' i hi')]
    · simp [h0]
def netOk (n : Network) : Bool := (decide (2 ≤ n.Nodes.length) && decide (n.Nodes.length ≤ 8)) && (decide (n.Fibers.length ≤ 14) && (!((List.range n.Nodes.length).any (nodeBad n.Nodes)) && !((List.range n.Fibers.length).any (fibBad n.Nodes.length n.Fibers))))
def NetB (n : Network) : Prop := (n.Nodes.length ≤ 2097152 ∧ ∀ e ∈ n.Nodes, e.size ≤ 2097152) ∧ n.Fibers.length ≤ 2097152
theorem gd_mem {α : Type} {l : List α} {i : Nat} (d : α) (h : i < l.length) : gd l i d ∈ l := by rw [gd_in d h]; exact List.getElem_mem _
theorem implNet_eq {fu : Nat} (hfu : 2097153 ≤ fu) (n : Network) (hB : NetB n) : impl_IsValidNetwork fu n = some (netOk n) := by
  obtain ⟨⟨hl, hs⟩, hl2⟩ := hB
  unfold impl_IsValidNetwork
  rw [scan_all (l := List.range n.Nodes.length) (G := impl_IsValidNetwork_L1 fu n) (nodeBad n.Nodes) (fun i => false) (by simp; omega)
    (fun fk i hi => by
      have hi' : i < n.Nodes.length := by simpa using hi
      have hz := hs _ (gd_mem nm0 hi')
      rw [impl_IsValidNetwork_L1, if_pos (by simpa using hi'), idx_gd nm0 hi', List.getElem_range]
      simp only [Option.bind_some, isName_eq _ (show (gd n.Nodes i nm0).size < fu by omega) hz, nodeBad, seen]
      rcases Bool.eq_false_or_eq_true (nameOk (gd n.Nodes i nm0)) with h1 | h1
      · rw [sub_take (by omega)]
        simp only [h1, Bool.not_true, Bool.false_eq_true, if_false, Option.bind_some, containsS_eq _ _ (show (n.Nodes.take i).length < fu by simp; omega) (by simp; omega), Bool.false_or]
      · simp [h1])
    (fun fk => by rw [List.length_range, impl_IsValidNetwork_L1, if_neg (by simp)]) fu (by simp; omega)]
  rw [scan_all (l := List.range n.Fibers.length) (G := impl_IsValidNetwork_L2 fu n) (fibBad n.Nodes.length n.Fibers) (fun i => false) (by simp; omega)
    (fun fk i hi => by
      have hi' : i < n.Fibers.length := by simpa using hi
      rw [impl_IsValidNetwork_L2, if_pos (by simpa using hi'), idx_gd f0 hi', List.getElem_range]
      simp only [Option.bind_some, within_eq, fibBad, fibOk]
      obtain ⟨x, hx⟩ : ∃ x, x = gd n.Fibers i f0 := ⟨_, rfl⟩
      simp only [← hx]
      have a1 : decide (x.A < 0) = !decide (0 ≤ x.A) := by rw [← decide_not]; simp only [decide_eq_decide]; omega
      have a2 : decide (x.A ≥ x.B) = !decide (x.A < x.B) := by rw [← decide_not]; simp only [decide_eq_decide]; omega
      have a3 : decide (x.B ≥ (n.Nodes.length : Int)) = !decide (x.B < (n.Nodes.length : Int)) := by rw [← decide_not]; simp only [decide_eq_decide]; omega
      simp only [a1, a2, a3]
      by_cases b1 : (decide (0 ≤ x.A)) = false
      · simp [b1]
      rw [Bool.not_eq_false] at b1
      by_cases b2 : (decide (x.A < x.B)) = false
      · simp [b1, b2]
      rw [Bool.not_eq_false] at b2
      by_cases b3 : (decide (x.B < (n.Nodes.length : Int))) = false
      · simp [b1, b2, b3]
      rw [Bool.not_eq_false] at b3
      by_cases b4 : (decide (1 ≤ x.Length) && decide (x.Length ≤ 5000)) = false
      · simp only [b1, b2, b3, b4]; simp
      rw [Bool.not_eq_false] at b4
      by_cases b5 : (decide (0 ≤ x.Risk) && decide (x.Risk ≤ 9)) = false
      · simp only [b1, b2, b3, b4, b5]; simp
      rw [Bool.not_eq_false] at b5
      simp only [b1, b2, b3, b4, b5]
      by_cases h0 : 0 < i
      · rw [w64_dec h0 (by omega), idx_gd f0 (show i - 1 < n.Fibers.length by omega)]
        obtain ⟨r, h1, h2⟩ := compareFibers_eq (fu := fu) (gd n.Fibers (i - 1) f0) x (by omega)
        have h0' : ((i : Int) > 0) := by omega
        simp [h0, h1, h2, h0']
      · have h0' : ¬ ((i : Int) > 0) := by omega
        simp [h0, h0'])
    (fun fk => by rw [List.length_range, impl_IsValidNetwork_L2, if_neg (by simp)]) fu (by simp; omega)]
  unfold netOk
  have e1 : decide (2 ≤ (n.Nodes.length : Int)) = decide (2 ≤ n.Nodes.length) := by simp only [decide_eq_decide]; omega
  have e2 : decide ((n.Nodes.length : Int) ≤ 8) = decide (n.Nodes.length ≤ 8) := by simp only [decide_eq_decide]; omega
  have e3 : decide ((n.Fibers.length : Int) ≤ 14) = decide (n.Fibers.length ≤ 14) := by simp only [decide_eq_decide]; omega
  simp only [within_eq, e1, e2, e3]
  cases (List.range n.Nodes.length).any (nodeBad n.Nodes) <;> cases (List.range n.Fibers.length).any (fibBad n.Nodes.length n.Fibers) <;> cases decide (2 ≤ n.Nodes.length) <;> cases decide (n.Nodes.length ≤ 8) <;> cases decide (n.Fibers.length ≤ 14) <;> rfl
theorem specNet_eq {fu : Nat} (hfu : 2097153 ≤ fu) (n : Network) (hB : NetB n) : spec_l2Good fu n = some (netOk n) := by
  obtain ⟨⟨hl, hs⟩, hl2⟩ := hB
  unfold spec_l2Good netOk
  have e1 : decide (2 ≤ (n.Nodes.length : Int)) = decide (2 ≤ n.Nodes.length) := by simp only [decide_eq_decide]; omega
  have e2 : decide ((n.Nodes.length : Int) ≤ 8) = decide (n.Nodes.length ≤ 8) := by simp only [decide_eq_decide]; omega
  have e3 : decide ((n.Fibers.length : Int) > 14) = !decide (n.Fibers.length ≤ 14) := by rw [← decide_not]; simp only [decide_eq_decide]; omega
  simp only [l1In_eq, e1, e2, e3, Option.bind_some]
  cases hb : (decide (2 ≤ n.Nodes.length) && decide (n.Nodes.length ≤ 8))
  · rfl
  cases hc : decide (n.Fibers.length ≤ 14)
  · rfl
  simp only [Bool.and_eq_true, decide_eq_true_eq] at hb hc
  rw [scan_all (l := List.range n.Nodes.length) (G := spec_l2Good_L1 fu n) (nodeBad n.Nodes) (fun i => false) (by simp; omega)
    (fun fk i hi => by
      have hi' : i < n.Nodes.length := by simpa using hi
      have hz := hs _ (gd_mem nm0 hi')
      rw [spec_l2Good_L1, if_pos (by simpa using hi'), idx_gd nm0 hi', List.getElem_range]
      simp only [Option.bind_some, l2Name_eq _ (show (gd n.Nodes i nm0).size < fu by omega) hz, nodeBad, seen]
      by_cases h1 : (nameOk (gd n.Nodes i nm0)) = false
      · simp [h1]
      rw [Bool.not_eq_false] at h1
      · have hp : (fun x : ByteArray => x.toList == (gd n.Nodes i nm0).toList) n.Nodes[i] = true := by simp [gd_in nm0 hi']
        have ha : n.Nodes.any (fun x => x.toList == (gd n.Nodes i nm0).toList) = true := List.any_eq_true.2 ⟨_, List.getElem_mem hi', hp⟩
        have hfi := findIdx_self (p := fun x : ByteArray => x.toList == (gd n.Nodes i nm0).toList) hi' hp
        have hsy : (n.Nodes.take i).any (fun x => (gd n.Nodes i nm0).toList == x.toList) = (n.Nodes.take i).any (fun x => x.toList == (gd n.Nodes i nm0).toList) := any_same fun x _ => beq_symm' _ _
        simp only [h1, Bool.not_true, Bool.false_eq_true, if_false, Option.bind_some, l2Find_eq _ _ (show n.Nodes.length < fu by omega) hl, ha, if_true, Bool.false_or, hsy]
        have he : (((n.Nodes.findIdx fun x => x.toList == (gd n.Nodes i nm0).toList : Nat) : Int) != (i : Int)) = (n.Nodes.take i).any (fun x => x.toList == (gd n.Nodes i nm0).toList) := by
          rw [Bool.eq_iff_iff]
          simp only [bne_iff_ne, ne_eq, Int.natCast_inj, hfi, Bool.not_eq_false]
        rw [he])
    (fun fk => by rw [List.length_range, spec_l2Good_L1, if_neg (by simp)]) fu (by simp; omega)]
  rw [scan_all (l := List.range n.Fibers.length) (G := spec_l2Good_L2 fu n) (fibBadS n.Nodes.length n.Fibers) (fun i => false) (by simp; omega)
    (fun fk i hi => by
      have hi' : i < n.Fibers.length := by simpa using hi
      rw [spec_l2Good_L2, if_pos (by simpa using hi'), idx_gd f0 hi', List.getElem_range]
      simp only [Option.bind_some, l2Fiber_eq _ hb.2, fibBadS]
      by_cases h1 : (fibOk n.Nodes.length (gd n.Fibers i f0)) = false
      · simp [h1]
      rw [Bool.not_eq_false] at h1
      simp only [h1]
      by_cases h0 : 0 < i
      · rw [w64_dec h0 (by omega), idx_gd f0 (show i - 1 < n.Fibers.length by omega)]
        have h0' : ((i : Int) > 0) := by omega
        simp [h0, l2Before_eq, h0']
      · have h0' : ¬ ((i : Int) > 0) := by omega
        simp [h0, h0'])
    (fun fk => by rw [List.length_range, spec_l2Good_L2, if_neg (by simp)]) fu (by simp; omega), fibBad_eq _ hb.2]
  cases (List.range n.Nodes.length).any (nodeBad n.Nodes) <;> cases (List.range n.Fibers.length).any (fibBad n.Nodes.length n.Fibers) <;> rfl
structure NetF (n : Network) : Prop where
  lo : 2 ≤ n.Nodes.length
  hi : n.Nodes.length ≤ 8
  fib : n.Fibers.length ≤ 14
  each : ∀ f ∈ n.Fibers, 0 ≤ f.A ∧ f.A < f.B ∧ f.B < (n.Nodes.length : Int) ∧ 1 ≤ f.Length ∧ f.Length ≤ 5000 ∧ 0 ≤ f.Risk ∧ f.Risk ≤ 9
theorem netF {n : Network} (h : netOk n = true) : NetF n := by
  unfold netOk at h
  simp only [Bool.and_eq_true, decide_eq_true_eq, Bool.not_eq_true'] at h
  obtain ⟨⟨h1, h2⟩, h3, h4, h5⟩ := h
  refine ⟨h1, h2, h3, fun f hf => ?_⟩
  obtain ⟨i, hi, rfl⟩ := List.mem_iff_getElem.1 hf
  rw [Bool.eq_false_iff] at h5
  have h6 : fibBad n.Nodes.length n.Fibers i = false := by
    rw [Bool.eq_false_iff]
    intro h7
    exact h5 (List.any_eq_true.2 ⟨i, List.mem_range.2 hi, h7⟩)
  unfold fibBad at h6
  rw [Bool.or_eq_false_iff] at h6
  have h8 := h6.1
  rw [gd_in f0 hi] at h8
  simp only [Bool.not_eq_false', fibOk, Bool.and_eq_true, decide_eq_true_eq] at h8
  omega
end AT

namespace AT
theorem app_ok {α : Type} {l m : List α} (h : l.length + m.length ≤ 1099511627776) : app l m = some (l ++ m) := by unfold app; rw [if_pos h]
theorem indexI_eq {fu : Nat} (l : List Int) (v : Int) (h : l.length < fu) (hn : l.length ≤ 2097152) : slices_Index_int_int fu l v = some (if l.any (fun x => x == v) then ((l.findIdx fun x => x == v : Nat) : Int) else -1) := by
  unfold slices_Index_int_int
  rw [scan_all (l := l) (G := slices_Index_int_int_L1 fu l v) (fun x => x == v) (fun i => (i : Int)) (by omega)
    (fun fk i hi => by rw [slices_Index_int_int_L1, if_pos (by simpa using hi), idx_in hi, Option.bind_some, beq_symm' v])
    (fun fk => by rw [slices_Index_int_int_L1, if_neg (by simp)]) fu h]
  cases l.any (fun x => x == v) <;> rfl
theorem containsI_eq {fu : Nat} (l : List Int) (v : Int) (h : l.length < fu) (hn : l.length ≤ 2097152) : slices_Contains_int_int fu l v = some (l.any fun x => x == v) := by
  unfold slices_Contains_int_int
  rw [indexI_eq l v h hn]
  cases l.any (fun x => x == v)
  · rfl
  · simp
theorem l1Has_eq {fu : Nat} (l : List Int) (v : Int) (h : l.length < fu) (hn : l.length ≤ 2097152) : spec_l1Has fu l v = some (l.any fun x => x == v) := by
  unfold spec_l1Has
  rw [scan_all (l := l) (G := spec_l1Has_L1 fu l v) (fun x => x == v) (fun i => true) (by omega)
    (fun fk i hi => by rw [spec_l1Has_L1, if_pos (by simpa using hi), idx_in hi, Option.bind_some])
    (fun fk => by rw [spec_l1Has_L1, if_neg (by simp)]) fu h]
  cases l.any (fun x => x == v) <;> rfl
def oth (f : Fiber) (v : Int) : Int := if v = f.A then f.B else if v = f.B then f.A else -1
theorem oth_if {R : Type} (f : Fiber) (v : Int) (k : Int → R) : (if v == f.A then k f.B else if v == f.B then k f.A else k (-1)) = k (oth f v) := by
  unfold oth
  by_cases h1 : v = f.A
  · rw [if_pos (beq_iff_eq.2 h1), if_pos h1]
  · rw [if_neg (by simpa using h1), if_neg h1]
    by_cases h2 : v = f.B
    · rw [if_pos (beq_iff_eq.2 h2), if_pos h2]
    · rw [if_neg (by simpa using h2), if_neg h2]
theorem otherEnd_eq (fu : Nat) (f : Fiber) (v : Int) : impl_otherEnd fu f v = some (oth f v) := by
  exact oth_if f v some
theorem l2Other_eq (fu : Nat) (n : Network) (i : Nat) (v : Int) (h : i < n.Fibers.length) : spec_l2Other fu n (i : Int) v = some (oth (gd n.Fibers i f0) v) := by
  unfold spec_l2Other
  rw [idx_gd f0 h]
  exact oth_if _ v some
def rwalk (F : List Fiber) : List Int → List Int → Int → Option (List Int)
  | [], out, _ => some out
  | i :: r, out, v => if 0 ≤ i ∧ i < (F.length : Int) then (if oth (gd F i.toNat f0) v < 0 ∨ (out.any fun x => x == oth (gd F i.toNat f0) v) = true then none else rwalk F r (out ++ [oth (gd F i.toNat f0) v]) (oth (gd F i.toNat f0) v)) else none
def rnodes (n : Network) (r : Route) : Option (List Int) := if (0 ≤ r.Start ∧ r.Start < (n.Nodes.length : Int)) ∧ r.Fibers ≠ [] then rwalk n.Fibers r.Fibers [r.Start] r.Start else none
def gl (l : List Int) : Int := gd l (l.length - 1) 0
theorem gl_snoc (l : List Int) (x : Int) : gl (l ++ [x]) = x := by unfold gl gd; simp
theorem rwalk_len {F : List Fiber} : ∀ {fs out : List Int} {v : Int} {o : List Int}, rwalk F fs out v = some o → o.length = out.length + fs.length
  | [], out, v, o, h => by simp only [rwalk, Option.some.injEq] at h; subst h; simp
  | i :: r, out, v, o, h => by
    unfold rwalk at h
    split at h
    · split at h
      · cases h
      · have := rwalk_len h
        simp only [List.length_append, List.length_cons, List.length_nil] at this ⊢
        omega
    · cases h
theorem rwalk_in {F : List Fiber} : ∀ {fs out : List Int} {v : Int} {o : List Int}, rwalk F fs out v = some o → ∀ i ∈ fs, 0 ≤ i ∧ i < (F.length : Int)
  | [], out, v, o, h => by simp
  | i :: r, out, v, o, h => by
    unfold rwalk at h
    split at h
    · rename_i hi
      split at h
      · cases h
      · intro j hj
        rcases List.mem_cons.1 hj with rfl | hj
        · exact hi
        · exact rwalk_in h j hj
    · cases h
theorem visited_loop {fu : Nat} (hfu : 2097153 ≤ fu) (n : Network) (r : Route) (hn : n.Fibers.length ≤ 2097152) (hr : r.Fibers.length ≤ 2097152) : ∀ (fk i : Nat) (out : List Int) (v : Int), i ≤ r.Fibers.length → r.Fibers.length - i < fk → out.length = i + 1 →
    ∃ z, impl_visited_L1 fu n r fk out v i = some (match rwalk n.Fibers (r.Fibers.drop i) out v with | some o => .next (o, z) | none => .ret ([], false)) := by
  intro fk
  induction fk with
  | zero => intro i _ _ _ h; omega
  | succ fk ih =>
    intro i out v hi hk ho
    rw [impl_visited_L1]
    by_cases h : i < r.Fibers.length
    · rw [if_pos (by simpa using h), idx_in h, ← List.getElem_cons_drop h, rwalk]
      obtain ⟨e, he⟩ : ∃ e, e = r.Fibers[i] := ⟨_, rfl⟩
      simp only [← he, Option.bind_some, within_eq]
      rw [w64_in (by omega) (by omega)]
      by_cases hb : 0 ≤ e ∧ e < (n.Fibers.length : Int)
      · rw [if_pos hb]
        have hb' : (decide (0 ≤ e) && decide (e ≤ (n.Fibers.length : Int) - 1)) = true := by simp; omega
        have hx : idx n.Fibers e = some (gd n.Fibers e.toNat f0) := by
          have := idx_gd (l := n.Fibers) (i := e.toNat) f0 (by omega)
          rwa [Int.toNat_of_nonneg hb.1] at this
        simp only [hb', Bool.not_true, Bool.false_eq_true, if_false, hx, Option.bind_some, otherEnd_eq]
        obtain ⟨y, hy⟩ : ∃ y, y = oth (gd n.Fibers e.toNat f0) v := ⟨_, rfl⟩
        simp only [← hy, containsI_eq out y (show out.length < fu by omega) (by omega)]
        by_cases hn : y < 0 ∨ (out.any fun x => x == y) = true
        · rw [if_pos hn]
          refine ⟨(0, 0), ?_⟩
          rcases hn with h1 | h1
          · simp [h1]
          · by_cases h2 : y < 0 <;> simp [h1, h2]
        · rw [if_neg hn]
          have h1 : ¬ y < 0 := fun h => hn (.inl h)
          have h2 : (out.any fun x => x == y) = false := by rw [Bool.eq_false_iff]; exact fun h => hn (.inr h)
          simp only [h1, decide_false, Bool.false_eq_true, if_false, h2, Option.bind_some]
          rw [app_ok (by simp; omega), Option.bind_some, w64_inc h (by omega)]
          exact ih (i + 1) _ _ h (by omega) (by simp; omega)
      · rw [if_neg hb]
        have hb' : (decide (0 ≤ e) && decide (e ≤ (n.Fibers.length : Int) - 1)) = false := by rw [Bool.eq_false_iff]; simp; omega
        exact ⟨(0, 0), by simp [hb']⟩
    · obtain rfl : i = r.Fibers.length := by omega
      rw [if_neg (by simp), List.drop_length]
      exact ⟨_, rfl⟩
theorem visited_eq {fu : Nat} (hfu : 2097153 ≤ fu) (n : Network) (r : Route) (hn : n.Fibers.length ≤ 2097152) (hm : n.Nodes.length ≤ 2097152) (hr : r.Fibers.length ≤ 2097152) : impl_visited fu n r = some (match rnodes n r with | some o => (o, true) | none => ([], false)) := by
  unfold impl_visited
  simp only [within_eq, Option.bind_some]
  rw [w64_in (by omega) (by omega)]
  by_cases hs : 0 ≤ r.Start ∧ r.Start < (n.Nodes.length : Int)
  · have hb' : (decide (0 ≤ r.Start) && decide (r.Start ≤ (n.Nodes.length : Int) - 1)) = true := by simp; omega
    by_cases he : r.Fibers = []
    · have er : rnodes n r = none := by unfold rnodes; rw [if_neg fun h => h.2 he]
      simp [hb', he, er]
    · have er : rnodes n r = rwalk n.Fibers r.Fibers [r.Start] r.Start := by unfold rnodes; rw [if_pos ⟨hs, he⟩]
      have he' : ((r.Fibers.length : Int) == 0) = false := by
        rw [beq_eq_false_iff_ne]
        have := List.length_pos_iff.2 he
        omega
      obtain ⟨z, hz⟩ := visited_loop hfu n r hn hr fu 0 [r.Start] r.Start (by omega) (by omega) rfl
      rw [List.drop_zero, show ((0 : Nat) : Int) = 0 from rfl] at hz
      rw [er]
      simp only [hb', Bool.not_true, Bool.false_eq_true, if_false, he', Option.bind_some, hz]
      cases rwalk n.Fibers r.Fibers [r.Start] r.Start <;> rfl
  · have hb' : (decide (0 ≤ r.Start) && decide (r.Start ≤ (n.Nodes.length : Int) - 1)) = false := by rw [Bool.eq_false_iff]; simp; omega
    have er : rnodes n r = none := by unfold rnodes; rw [if_neg fun h => hs h.1]
    simp [hb', er]
theorem walk_loop {fu : Nat} (hfu : 2097153 ≤ fu) (n : Network) (r : Route) (hn : n.Fibers.length ≤ 2097152) (hr : r.Fibers.length ≤ 2097152) : ∀ (fk i : Nat) (out : List Int), i ≤ r.Fibers.length → r.Fibers.length - i < fk → out.length = i + 1 →
    ∃ z o', spec_l4Walk_L1 fu n r fk out i = some (match rwalk n.Fibers (r.Fibers.drop i) out (gl out) with | some o => .next (o, z) | none => .ret (o', false)) := by
  intro fk
  induction fk with
  | zero => intro i _ _ h; omega
  | succ fk ih =>
    intro i out hi hk ho
    rw [spec_l4Walk_L1]
    by_cases h : i < r.Fibers.length
    · rw [if_pos (by simpa using h), idx_in h, ← List.getElem_cons_drop h, rwalk]
      obtain ⟨e, he⟩ : ∃ e, e = r.Fibers[i] := ⟨_, rfl⟩
      have hlast : idx out (w64 ((out.length : Int) - 1)) = some (gl out) := by
        rw [w64_dec (by omega) (by omega), idx_gd 0 (by omega)]; rfl
      simp only [← he, Option.bind_some, l1In_eq, hlast]
      rw [w64_in (by omega) (by omega)]
      by_cases hb : 0 ≤ e ∧ e < (n.Fibers.length : Int)
      · rw [if_pos hb]
        have hb' : (decide (0 ≤ e) && decide (e ≤ (n.Fibers.length : Int) - 1)) = true := by simp; omega
        have hx : spec_l2Other fu n e (gl out) = some (oth (gd n.Fibers e.toNat f0) (gl out)) := by
          have := l2Other_eq fu n e.toNat (gl out) (by omega)
          rwa [Int.toNat_of_nonneg hb.1] at this
        simp only [hb', Bool.not_true, Bool.false_eq_true, if_false, hx, Option.bind_some]
        obtain ⟨y, hy⟩ : ∃ y, y = oth (gd n.Fibers e.toNat f0) (gl out) := ⟨_, rfl⟩
        simp only [← hy, l1Has_eq out y (show out.length < fu by omega) (by omega)]
        by_cases hn : y < 0 ∨ (out.any fun x => x == y) = true
        · rw [if_pos hn]
          refine ⟨0, out, ?_⟩
          rcases hn with h1 | h1
          · simp [h1]
          · by_cases h2 : y < 0 <;> simp [h1, h2]
        · rw [if_neg hn]
          have h1 : ¬ y < 0 := fun h => hn (.inl h)
          have h2 : (out.any fun x => x == y) = false := by rw [Bool.eq_false_iff]; exact fun h => hn (.inr h)
          simp only [h1, decide_false, Bool.false_eq_true, if_false, h2, Option.bind_some]
          rw [app_ok (by simp; omega), Option.bind_some, w64_inc h (by omega)]
          have := ih (i + 1) (out ++ [y]) h (by omega) (by simp; omega)
          rwa [gl_snoc] at this
      · rw [if_neg hb]
        have hb' : (decide (0 ≤ e) && decide (e ≤ (n.Fibers.length : Int) - 1)) = false := by rw [Bool.eq_false_iff]; simp; omega
        exact ⟨0, out, by simp [hb']⟩
    · obtain rfl : i = r.Fibers.length := by omega
      rw [if_neg (by simp), List.drop_length]
      exact ⟨_, [], rfl⟩
theorem walk_eq {fu : Nat} (hfu : 2097153 ≤ fu) (n : Network) (r : Route) (hn : n.Fibers.length ≤ 2097152) (hm : n.Nodes.length ≤ 2097152) (hr : r.Fibers.length ≤ 2097152) : ∃ o', spec_l4Walk fu n r = some (match rnodes n r with | some o => (o, true) | none => (o', false)) := by
  unfold spec_l4Walk
  simp only [l1In_eq, Option.bind_some]
  rw [w64_in (by omega) (by omega)]
  by_cases hs : 0 ≤ r.Start ∧ r.Start < (n.Nodes.length : Int)
  · have hb' : (decide (0 ≤ r.Start) && decide (r.Start ≤ (n.Nodes.length : Int) - 1)) = true := by simp; omega
    by_cases he : r.Fibers = []
    · have er : rnodes n r = none := by unfold rnodes; rw [if_neg fun h => h.2 he]
      exact ⟨[r.Start], by simp [hb', he, er]⟩
    · have er : rnodes n r = rwalk n.Fibers r.Fibers [r.Start] r.Start := by unfold rnodes; rw [if_pos ⟨hs, he⟩]
      have he' : ((r.Fibers.length : Int) == 0) = false := by
        rw [beq_eq_false_iff_ne]
        have := List.length_pos_iff.2 he
        omega
      obtain ⟨z, o', hz⟩ := walk_loop hfu n r hn hr fu 0 [r.Start] (by omega) (by omega) rfl
      rw [List.drop_zero, show ((0 : Nat) : Int) = 0 from rfl, show gl [r.Start] = r.Start from rfl] at hz
      refine ⟨o', ?_⟩
      rw [er]
      simp only [hb', Bool.not_true, Bool.false_eq_true, if_false, he', Option.bind_some, hz]
      cases rwalk n.Fibers r.Fibers [r.Start] r.Start <;> rfl
  · have hb' : (decide (0 ≤ r.Start) && decide (r.Start ≤ (n.Nodes.length : Int) - 1)) = false := by rw [Bool.eq_false_iff]; simp; omega
    refine ⟨[r.Start], ?_⟩
    have er : rnodes n r = none := by unfold rnodes; rw [if_neg fun h => hs h.1]
    simp [hb', er]
theorem l4Good_eq {fu : Nat} (hfu : 2097153 ≤ fu) (n : Network) (r : Route) (hB : NetB n) (hr : r.Fibers.length ≤ 2097152) : spec_l4Good fu n r = some (netOk n && (rnodes n r).isSome) := by
  unfold spec_l4Good
  rw [specNet_eq hfu n hB, Option.bind_some]
  obtain ⟨o', h⟩ := walk_eq hfu n r hB.2 hB.1.1 hr
  rw [h]
  cases netOk n
  · rfl
  · cases rnodes n r <;> rfl
theorem rnodes_len {n : Network} {r : Route} {o : List Int} (h : rnodes n r = some o) : o.length = r.Fibers.length + 1 := by
  unfold rnodes at h
  split at h
  · have := rwalk_len h
    simp only [List.length_cons, List.length_nil] at this
    omega
  · cases h
theorem rnodes_in {n : Network} {r : Route} {o : List Int} (h : rnodes n r = some o) : ∀ i ∈ r.Fibers, 0 ≤ i ∧ i < (n.Fibers.length : Int) := by
  unfold rnodes at h
  split at h
  · exact rwalk_in h
  · cases h
theorem short_of : ∀ (m : Nat) (l : List Int), l.Nodup → (∀ x ∈ l, 0 ≤ x ∧ x < (m : Int)) → l.length ≤ m
  | 0, l, _, h => by
    cases l with
    | nil => simp
    | cons x l => have := h x (by simp); omega
  | m + 1, l, hn, h => by
    have h1 := short_of m (l.erase (m : Int)) (hn.erase _) fun x hx => by
      have hx1 := List.mem_of_mem_erase hx
      have := h x hx1
      refine ⟨this.1, ?_⟩
      have hne : x ≠ (m : Int) := fun e => by
        subst e
        exact (hn.not_mem_erase) hx
      omega
    rw [List.length_erase] at h1
    split at h1 <;> omega
theorem oth_mem {f : Fiber} {v : Int} (h : 0 ≤ oth f v) : (v = f.A ∧ oth f v = f.B) ∨ (v = f.B ∧ oth f v = f.A) := by
  unfold oth at h ⊢
  split at h
  · rename_i h1; rw [if_pos h1]; exact .inl ⟨h1, rfl⟩
  · rename_i h1
    rw [if_neg h1]
    split at h
    · rename_i h2; rw [if_pos h2]; exact .inr ⟨h2, rfl⟩
    · omega
theorem rwalk_all {F : List Fiber} (P : Int → Prop) (hF : ∀ f ∈ F, P f.A ∧ P f.B) : ∀ {fs out : List Int} {v : Int} {o : List Int} (U : List Int), rwalk F fs out v = some o → out.Nodup → (∀ x ∈ out, P x) → v ∈ out → (∀ i ∈ U, (gd F i.toNat f0).A ∈ out ∧ (gd F i.toNat f0).B ∈ out) →
    o.Nodup ∧ (∀ x ∈ o, P x) ∧ fs.Nodup ∧ ∀ i ∈ fs, i ∉ U
  | [], out, v, o, U, h, h1, h2, h3, h4 => by
    simp only [rwalk, Option.some.injEq] at h
    subst h
    exact ⟨h1, h2, .nil, by simp⟩
  | i :: r, out, v, o, U, h, h1, h2, h3, h4 => by
    unfold rwalk at h
    split at h
    case isFalse => cases h
    rename_i hi
    split at h
    case isTrue => cases h
    rename_i hc
    obtain ⟨y, hy⟩ : ∃ y, y = oth (gd F i.toNat f0) v := ⟨_, rfl⟩
    rw [← hy] at h hc
    have hy0 : 0 ≤ y := by
      rcases Classical.em (y < 0) with h' | h'
      · exact absurd (.inl h') hc
      · omega
    have hny : y ∉ out := fun hm => hc (.inr (List.any_eq_true.2 ⟨y, hm, by simp⟩))
    have hfm : gd F i.toNat f0 ∈ F := gd_mem f0 (by omega)
    have hm := oth_mem (f := gd F i.toNat f0) (v := v) (by omega)
    rw [← hy] at hm
    have hPy : P y := by
      rcases hm with ⟨_, e⟩ | ⟨_, e⟩ <;> rw [e]
      · exact (hF _ hfm).2
      · exact (hF _ hfm).1
    have hiU : i ∉ U := fun hu => by
      have := h4 i hu
      rcases hm with ⟨_, e⟩ | ⟨_, e⟩ <;> rw [e] at hny
      · exact hny this.2
      · exact hny this.1
    obtain ⟨g1, g2, g3, g4⟩ := rwalk_all P hF (i :: U) h
      (List.nodup_append.2 ⟨h1, by simp, fun a ha b hb => by rw [List.mem_singleton] at hb; subst hb; exact fun e => hny (e ▸ ha)⟩)
      (fun x hx => by
        rcases List.mem_append.1 hx with hx | hx
        · exact h2 x hx
        · rw [List.mem_singleton] at hx; subst hx; exact hPy)
      (by simp)
      (fun j hj => by
        rcases List.mem_cons.1 hj with rfl | hj
        · rcases hm with ⟨e1, e2⟩ | ⟨e1, e2⟩
          · exact ⟨List.mem_append.2 (.inl (e1 ▸ h3)), List.mem_append.2 (.inr (by rw [e2]; simp))⟩
          · exact ⟨List.mem_append.2 (.inr (by rw [e2]; simp)), List.mem_append.2 (.inl (e1 ▸ h3))⟩
        · exact ⟨List.mem_append.2 (.inl (h4 j hj).1), List.mem_append.2 (.inl (h4 j hj).2)⟩)
    refine ⟨g1, g2, List.nodup_cons.2 ⟨fun hm => g4 i hm (by simp), g3⟩, fun j hj => ?_⟩
    rcases List.mem_cons.1 hj with rfl | hj
    · exact hiU
    · exact fun hu => g4 j hj (List.mem_cons_of_mem _ hu)
theorem rnodes_facts {n : Network} {r : Route} {o : List Int} (hn : NetF n) (h : rnodes n r = some o) : o.Nodup ∧ (∀ x ∈ o, 0 ≤ x ∧ x < (n.Nodes.length : Int)) ∧ r.Fibers.Nodup ∧ r.Fibers.length ≤ 7 ∧ r.Fibers ≠ [] ∧ 0 ≤ r.Start ∧ r.Start < (n.Nodes.length : Int) := by
  have hl := rnodes_len h
  unfold rnodes at h
  split at h
  case isFalse => cases h
  rename_i hs
  obtain ⟨g1, g2, g3, _⟩ := rwalk_all (fun x => 0 ≤ x ∧ x < (n.Nodes.length : Int)) (fun f hf => by have := hn.each f hf; omega) [] h (by simp) (by simpa using hs.1) (by simp) (by simp)
  have := short_of _ _ g1 g2
  have := hn.hi
  exact ⟨g1, g2, g3, by omega, hs.2, hs.1⟩
end AT

namespace AT
open Go.Lib (index occAt itoa)
theorem sub_from {α : Type} {l : List α} {n : Nat} (h : n ≤ l.length) : sub l (n : Int) (l.length : Int) = some (l.drop n) := by
  unfold sub
  rw [if_pos ⟨by omega, by omega, by omega⟩, Int.toNat_natCast, Int.toNat_natCast, List.take_length]
theorem name_facts {s : ByteArray} (h : nameOk s = true) : (∀ b ∈ btl s, (97 ≤ b.toNat ∧ b.toNat ≤ 122) ∨ (48 ≤ b.toNat ∧ b.toNat ≤ 57)) ∧ 1 ≤ (btl s).length ∧ (btl s).length ≤ 8 := by
  unfold nameOk at h
  simp only [Bool.and_eq_true, decide_eq_true_eq, Bool.not_eq_true'] at h
  obtain ⟨h1, h2, h3⟩ := h
  rw [len_bl]
  refine ⟨fun b hb => ?_, h2, h3⟩
  obtain ⟨i, hi, rfl⟩ := List.mem_iff_getElem.1 hb
  have hi' : i < s.size := by rwa [len_bl] at hi
  have hc : chrBad s i = false := by
    rw [Bool.eq_false_iff] at h1 ⊢
    exact fun e => h1 (List.any_eq_true.2 ⟨i, List.mem_range.2 hi', e⟩)
  have e : chr s i = ((btl s)[i].toNat : Int) := by
    have e2 : s[i]? = some (s[i]'hi') := by simp [hi']
    unfold chr
    rw [e2]
    rfl
  unfold chrBad isLet isDig at hc
  rw [e] at hc
  generalize (btl s)[i].toNat = k at hc
  by_cases k1 : 97 ≤ k <;> by_cases k2 : k ≤ 122 <;> by_cases k3 : 48 ≤ k <;> by_cases k4 : k ≤ 57
  all_goals first | omega | (exfalso; revert hc; simp; omega)
structure NetN (n : Network) : Prop where
  ok : ∀ i, i < n.Nodes.length → nameOk (gd n.Nodes i nm0) = true
  ne : ∀ i j, i < j → j < n.Nodes.length → gd n.Nodes i nm0 ≠ gd n.Nodes j nm0
theorem netN {n : Network} (h : netOk n = true) : NetN n := by
  unfold netOk at h
  simp only [Bool.and_eq_true, decide_eq_true_eq, Bool.not_eq_true'] at h
  obtain ⟨-, -, h4, -⟩ := h
  have hb : ∀ i, i < n.Nodes.length → nodeBad n.Nodes i = false := fun i hi => by
    rw [Bool.eq_false_iff] at h4 ⊢
    exact fun e => h4 (List.any_eq_true.2 ⟨i, List.mem_range.2 hi, e⟩)
  refine ⟨fun i hi => ?_, fun i j hij hj e => ?_⟩
  · have := hb i hi
    unfold nodeBad at this
    rw [Bool.or_eq_false_iff] at this
    simpa using this.1
  · have := hb j hj
    unfold nodeBad seen at this
    rw [Bool.or_eq_false_iff] at this
    obtain ⟨-, h2⟩ := this
    rw [Bool.eq_false_iff] at h2
    refine h2 (List.any_eq_true.2 ⟨gd n.Nodes i nm0, ?_, by rw [e]; simp⟩)
    refine List.mem_iff_getElem.2 ⟨i, by simp; omega, ?_⟩
    rw [List.getElem_take, gd_in nm0 (by omega)]
def nm (n : Network) (i : Int) : List UInt8 := btl (gd n.Nodes i.toNat nm0)
theorem nm_B (n : Network) (i : Int) : gd n.Nodes i.toNat nm0 = mkB (nm n i) := (mk_bl _).symm
theorem idx_nm {n : Network} {i : Int} (h : 0 ≤ i ∧ i < (n.Nodes.length : Int)) : idx n.Nodes i = some (mkB (nm n i)) := by
  obtain ⟨k, rfl⟩ : ∃ k : Nat, i = k := ⟨i.toNat, by omega⟩
  rw [idx_gd nm0 (by omega), ← nm_B, Int.toNat_natCast]
theorem nm_facts {n : Network} (hn : NetN n) {i : Int} (h : 0 ≤ i ∧ i < (n.Nodes.length : Int)) : (∀ b ∈ nm n i, (97 ≤ b.toNat ∧ b.toNat ≤ 122) ∨ (48 ≤ b.toNat ∧ b.toNat ≤ 57)) ∧ 1 ≤ (nm n i).length ∧ (nm n i).length ≤ 8 :=
  name_facts (hn.ok i.toNat (by omega))
theorem nm_not {n : Network} (hn : NetN n) {i : Int} (h : 0 ≤ i ∧ i < (n.Nodes.length : Int)) {c : UInt8} (hc : c.toNat < 48) : c ∉ nm n i := fun hm => by
  have := (nm_facts hn h).1 c hm
  omega
theorem indexOf_eq {fu : Nat} (l : List ByteArray) (v : ByteArray) (h : l.length < fu) (hn : l.length ≤ 2097152) : impl_indexOf fu l v = some (if l.any (fun x => x.toList == v.toList) then (((l.findIdx fun x => x.toList == v.toList : Nat) : Int), true) else (0, false)) := by
  unfold impl_indexOf
  rw [scan_all (l := l) (G := impl_indexOf_L1 fu l v) (fun x => x.toList == v.toList) (fun i => ((i : Int), true)) (by omega)
    (fun fk i hi => by rw [impl_indexOf_L1, if_pos (by simpa using hi), idx_in hi]; rfl)
    (fun fk => by rw [impl_indexOf_L1, if_neg (by simp)]) fu h]
  cases l.any (fun x => x.toList == v.toList) <;> rfl
theorem indexOf_back {fu : Nat} (hfu : 2097153 ≤ fu) {n : Network} (hn : NetN n) (hl : n.Nodes.length ≤ 8) {i : Int} (h : 0 ≤ i ∧ i < (n.Nodes.length : Int)) : impl_indexOf fu n.Nodes (mkB (nm n i)) = some (i, true) := by
  obtain ⟨k, rfl⟩ : ∃ k : Nat, i = k := ⟨i.toNat, by omega⟩
  have hk : k < n.Nodes.length := by omega
  rw [indexOf_eq _ _ (by omega) (by omega), ← nm_B, Int.toNat_natCast]
  have hp : (fun x : ByteArray => x.toList == (gd n.Nodes k nm0).toList) n.Nodes[k] = true := by simp [gd_in nm0 hk]
  have ha : n.Nodes.any (fun x => x.toList == (gd n.Nodes k nm0).toList) = true := List.any_eq_true.2 ⟨_, List.getElem_mem hk, hp⟩
  have hf : n.Nodes.findIdx (fun x => x.toList == (gd n.Nodes k nm0).toList) = k := by
    refine (findIdx_self hk hp).2 ?_
    rw [Bool.eq_false_iff]
    intro h3
    obtain ⟨x, hx, hpx⟩ := List.any_eq_true.1 h3
    obtain ⟨j, hj, rfl⟩ := List.mem_iff_getElem.1 hx
    simp only [List.length_take] at hj
    rw [List.getElem_take, eqL, decide_eq_true_eq, ← gd_in nm0 (show j < n.Nodes.length by omega)] at hpx
    exact hn.ne j k (by omega) hk hpx
  rw [ha, if_pos rfl, hf]
def textOf (ls : List (List UInt8)) : List UInt8 := (ls.map (· ++ [10])).flatten
theorem textOf_cons (x : List UInt8) (r : List (List UInt8)) : textOf (x :: r) = x ++ [10] ++ textOf r := by simp [textOf]
theorem textOf_eq : ∀ (r : List (List UInt8)) (x : List UInt8), textOf (x :: r) = (x ++ tailsOf 10 r) ++ [10]
  | [], x => by simp [textOf, tailsOf]
  | y :: r, x => by
    rw [textOf_cons, textOf_eq r y]
    simp [tailsOf]
theorem suffix_eq {fu : Nat} (l : List UInt8) (h : l.length ≤ 4611686018427387904) : strings_HasSuffix fu (mkB l) (mkB [10]) = some (decide (l.getLast? = some 10)) := by
  unfold strings_HasSuffix internal_stringslite_HasSuffix
  rw [size_mk, size_mk]
  rcases List.eq_nil_or_concat l with rfl | ⟨a, b, rfl⟩
  · rfl
  · have hl : (a.concat b).length = a.length + 1 := by simp
    have e : w64 (((a.concat b).length : Int) - (([10] : List UInt8).length : Int)) = (a.length : Int) := by
      show w64 (((a.concat b).length : Int) - 1) = _
      rw [w64_in (by omega) (by omega)]; omega
    rw [if_pos (by rw [decide_eq_true_eq, hl]; simp; omega), e, ssub_mk (by simp) (Nat.le_refl _), Option.bind_some, toL_mk, toL_mk]
    simp only [List.concat_eq_append, List.length_append, List.length_singleton, Option.bind_some]
    rw [List.take_of_length_le (by simp), List.drop_left]
    simp only [List.getLast?_append, List.getLast?_singleton, Option.some_or, Option.some.injEq]
    congr 1
    by_cases hb : b = 10 <;> simp [hb]
theorem linesOf_eq {fu : Nat} (l : List UInt8) (h : l.length ≤ 1000000000) : impl_linesOf fu (mkB l) = some (if l.length ≤ 4000 ∧ l.getLast? = some 10 then ((splitL 10 l.dropLast).map mkB, true) else ([], false)) := by
  unfold impl_linesOf
  rw [size_mk]
  by_cases h1 : l.length ≤ 4000
  · rw [if_neg (by rw [decide_eq_true_eq]; omega)]
    show (((strings_HasSuffix fu (mkB l) (mkB [10])).bind fun y => some (!y)).bind _) = _
    rw [suffix_eq l (by omega), Option.bind_some, Option.bind_some]
    by_cases h2 : l.getLast? = some 10
    · have h0 : 0 < l.length := by
        cases l with
        | nil => cases h2
        | cons a t => simp
      have e : w64 ((l.length : Int) - 1) = ((l.length - 1 : Nat) : Int) := by rw [w64_in (by omega) (by omega)]; omega
      rw [decide_eq_true h2, if_neg (by decide), if_pos ⟨h1, h2⟩, e, show (0 : Int) = ((0 : Nat) : Int) from rfl, ssub_mk (Nat.zero_le _) (by omega), Option.bind_some, List.drop_zero, ← List.dropLast_eq_take]
      show (strings_Split fu (mkB l.dropLast) (mkB [10])).bind _ = _
      unfold strings_Split
      rw [splitO_mk (by rw [List.length_dropLast]; omega), Option.bind_some]
    · rw [decide_eq_false h2, if_pos (by decide), if_neg fun h => h2 h.2]
  · rw [if_pos (by rw [decide_eq_true_eq]; omega), Option.bind_some, if_pos rfl, if_neg fun h => h1 h.1]
theorem lines_back {fu : Nat} {x : List UInt8} {r : List (List UInt8)} (h : (textOf (x :: r)).length ≤ 4000) (hx : (10 : UInt8) ∉ x) (hr : ∀ p ∈ r, (10 : UInt8) ∉ p) : impl_linesOf fu (mkB (textOf (x :: r))) = some ((x :: r).map mkB, true) := by
  rw [linesOf_eq _ (by omega), textOf_eq] at *
  rw [if_pos ⟨h, by simp⟩, List.dropLast_concat, splitL_join hx hr]
def wordsF (n : Network) (f : Fiber) : List (List UInt8) := [nm n f.A, nm n f.B, itoa f.Length] ++ (if f.Risk > 0 then [[114, 105, 115, 107], itoa f.Risk] else [])
def lineF (n : Network) (f : Fiber) : List UInt8 := [102, 105, 98, 101, 114] ++ tailsOf 32 (wordsF n f)
def headN (n : Network) : List UInt8 := [110, 111, 100, 101, 115] ++ tailsOf 32 (n.Nodes.map btl)
def fmtN (n : Network) : List UInt8 := textOf (headN n :: n.Fibers.map (lineF n))
structure FibB (n : Network) (f : Fiber) : Prop where
  a : 0 ≤ f.A ∧ f.A < (n.Nodes.length : Int)
  b : 0 ≤ f.B ∧ f.B < (n.Nodes.length : Int)
  l : NumB f.Length
  r : NumB f.Risk
theorem NetF.fb {n : Network} (h : NetF n) {f : Fiber} (hf : f ∈ n.Fibers) : FibB n f := by
  have := h.each f hf
  exact ⟨by omega, by omega, ⟨by omega, by omega⟩, ⟨by omega, by omega⟩⟩
theorem FibB.len {n : Network} (hn : NetN n) {f : Fiber} (h : FibB n f) : (lineF n f).length ≤ 50 := by
  have h1 := (nm_facts hn h.a).2.2
  have h2 := (nm_facts hn h.b).2.2
  have h3 := (itoa_facts h.l).2.1
  have h4 := (itoa_facts h.r).2.1
  unfold lineF wordsF tailsOf
  split
  · simp; omega
  · simp; omega
theorem format_loop {fu : Nat} {n : Network} (hn : NetN n) (hF : ∀ f ∈ n.Fibers, FibB n f) (hl : n.Fibers.length ≤ 1000) : ∀ (fk i : Nat) (a : List UInt8), i ≤ n.Fibers.length → n.Fibers.length - i < fk → a.length ≤ 1000000 + 100 * i → ∃ z, impl_FormatNetwork_L1 fu n fk (mkB a) i = some (mkB (a ++ textOf ((n.Fibers.drop i).map (lineF n))), z)
  | 0, i, a, hi, hf, ha => by omega
  | fk + 1, i, a, hi, hf, ha => by
    rw [impl_FormatNetwork_L1]
    by_cases h : i < n.Fibers.length
    · have hb := hF _ (List.getElem_mem h)
      have hlen := hb.len hn
      have e1 := (nm_facts hn hb.a).2.2
      have e2 := (nm_facts hn hb.b).2.2
      have e3 := (itoa_facts hb.l).2.1
      have e4 := (itoa_facts hb.r).2.1
      have g32 : (⟨#[32]⟩ : ByteArray) = mkB [32] := rfl
      have g10 : (⟨#[10]⟩ : ByteArray) = mkB [10] := rfl
      have gf : (⟨#[102, 105, 98, 101, 114, 32]⟩ : ByteArray) = mkB [102, 105, 98, 101, 114, 32] := rfl
      have gr : (⟨#[32, 114, 105, 115, 107, 32]⟩ : ByteArray) = mkB [32, 114, 105, 115, 107, 32] := rfl
      rw [if_pos (by simpa using h), idx_in h, Option.bind_some, idx_nm hb.a, Option.bind_some, gf, scat_mk (by simp; omega), Option.bind_some, g32, scat_mk (by simp; omega), Option.bind_some, idx_nm hb.b, Option.bind_some, scat_mk (by simp; omega), Option.bind_some, scat_mk (by simp; omega), Option.bind_some]
      unfold strconv_Itoa
      rw [itoaO_mk hb.l, Option.bind_some, scat_mk (by simp; omega), Option.bind_some, scat_mk (by simp; omega), Option.bind_some, w64_inc h (by omega)]
      by_cases hr : n.Fibers[i].Risk > 0
      · rw [if_pos (by simpa using hr), itoaO_mk hb.r, Option.bind_some, gr, scat_mk (by simp; omega), Option.bind_some, scat_mk (by simp; omega), Option.bind_some, g10, scat_mk (by simp; omega), Option.bind_some]
        obtain ⟨z, hz⟩ := format_loop hn hF hl fk (i + 1) (a ++ (lineF n n.Fibers[i] ++ [10])) h (by omega) (by simp; omega)
        refine ⟨z, ?_⟩
        have e : a ++ (lineF n n.Fibers[i] ++ [10]) ++ textOf ((n.Fibers.drop (i + 1)).map (lineF n)) = a ++ textOf ((n.Fibers.drop i).map (lineF n)) := by
          rw [← List.getElem_cons_drop h, List.map_cons, textOf_cons]
          simp
        rw [← e, ← hz]
        congr 2
        unfold lineF wordsF tailsOf
        rw [if_pos hr]
        simp
      · rw [if_neg (by simpa using hr), g10, scat_mk (by simp; omega), Option.bind_some]
        obtain ⟨z, hz⟩ := format_loop hn hF hl fk (i + 1) (a ++ (lineF n n.Fibers[i] ++ [10])) h (by omega) (by simp; omega)
        refine ⟨z, ?_⟩
        have e : a ++ (lineF n n.Fibers[i] ++ [10]) ++ textOf ((n.Fibers.drop (i + 1)).map (lineF n)) = a ++ textOf ((n.Fibers.drop i).map (lineF n)) := by
          rw [← List.getElem_cons_drop h, List.map_cons, textOf_cons]
          simp
        rw [← e, ← hz]
        congr 2
        unfold lineF wordsF tailsOf
        rw [if_neg hr]
        simp
    · have e : i = n.Fibers.length := by omega
      subst e
      rw [if_neg (by simp), List.drop_length, List.map_nil]
      exact ⟨_, by rw [show textOf [] = [] from rfl, List.append_nil]⟩
theorem joinTail_eq (c : UInt8) (r : List (List UInt8)) : Go.Lib.joinTail [c] r = tailsOf c r := rfl
theorem head_len {n : Network} (hn : NetN n) (hl : n.Nodes.length ≤ 8) : (headN n).length ≤ 100 := by
  have h : ∀ (l : List (List UInt8)), (∀ x ∈ l, x.length ≤ 8) → (tailsOf 32 l).length ≤ 9 * l.length := by
    intro l
    induction l with
    | nil => intro _; simp [tailsOf]
    | cons x r ih =>
      intro hx
      have h1 := ih fun y hy => hx y (List.mem_cons_of_mem _ hy)
      have h2 := hx x (List.mem_cons_self ..)
      have e : tailsOf 32 (x :: r) = 32 :: (x ++ tailsOf 32 r) := by simp [tailsOf]
      rw [e]
      simp only [List.length_cons, List.length_append]
      omega
  have := h (n.Nodes.map btl) fun x hx => by
    obtain ⟨s, hs, rfl⟩ := List.mem_map.1 hx
    obtain ⟨i, hi, rfl⟩ := List.mem_iff_getElem.1 hs
    have := hn.ok i hi
    rw [gd_in nm0 hi] at this
    exact (name_facts this).2.2
  unfold headN
  rw [List.length_map] at this
  simp only [List.length_append, List.length_cons, List.length_nil]
  omega
theorem text_len {n : Network} (k : Nat) : ∀ (l : List (List UInt8)), (∀ x ∈ l, x.length ≤ k) → (textOf l).length ≤ (k + 1) * l.length
  | [], _ => by simp [textOf]
  | x :: r, h => by
    have h1 := text_len (n := n) k r fun y hy => h y (List.mem_cons_of_mem _ hy)
    have h2 := h x (List.mem_cons_self ..)
    rw [textOf_cons]
    simp only [List.length_append, List.length_cons, List.length_nil, Nat.mul_add]
    omega
theorem fmtN_len {n : Network} (hn : netOk n = true) : (fmtN n).length ≤ 1000 := by
  have hN := netN hn
  have hF := netF hn
  have h1 := head_len hN hF.hi
  have h2 := text_len (n := n) 50 (n.Fibers.map (lineF n)) fun x hx => by
    obtain ⟨f, hf, rfl⟩ := List.mem_map.1 hx
    exact (hF.fb hf).len hN
  have h3 := hF.fib
  unfold fmtN
  rw [textOf_cons]
  simp only [List.length_append, List.length_cons, List.length_nil, List.length_map] at h2 ⊢
  omega
theorem formatN_eq {fu : Nat} (hfu : 2097153 ≤ fu) (n : Network) (hB : NetB n) : impl_FormatNetwork fu n = some (if netOk n = true then (mkB (fmtN n), true) else (ByteArray.empty, false)) := by
  unfold impl_FormatNetwork
  rw [implNet_eq hfu n hB, Option.bind_some]
  by_cases h : netOk n = true
  · have hN := netN h
    have hF := netF h
    have hh := head_len hN hF.hi
    rw [h, if_neg (by decide), if_pos rfl]
    obtain ⟨x, r, hx⟩ : ∃ x r, n.Nodes = x :: r := by
      cases hc : n.Nodes with
      | nil => have := hF.lo; rw [hc] at this; simp at this
      | cons x r => exact ⟨x, r, rfl⟩
    have ej : Go.Lib.join (n.Nodes.map btl) [32] = btl x ++ tailsOf 32 (r.map btl) := by
      rw [hx, List.map_cons, Go.Lib.join_cons, joinTail_eq]
    have eh : headN n = [110, 111, 100, 101, 115, 32] ++ (btl x ++ tailsOf 32 (r.map btl)) := by
      unfold headN
      rw [hx]
      simp [tailsOf]
    have hlen : (btl x ++ tailsOf 32 (r.map btl)).length ≤ 100 := by
      rw [eh, List.length_append] at hh
      omega
    have g32 : (⟨#[32]⟩ : ByteArray) = mkB [32] := rfl
    have g10 : (⟨#[10]⟩ : ByteArray) = mkB [10] := rfl
    have gn : (⟨#[110, 111, 100, 101, 115, 32]⟩ : ByteArray) = mkB [110, 111, 100, 101, 115, 32] := rfl
    have hj : strings_Join fu n.Nodes (⟨#[32]⟩ : ByteArray) = some (mkB (btl x ++ tailsOf 32 (r.map btl))) := by
      unfold strings_Join joinO
      rw [g32, bl_mk, ej, if_pos ⟨by have := hF.hi; omega, by omega⟩]
    rw [hj, Option.bind_some, gn, scat_mk (by rw [List.length_cons]; simp only [List.length_cons, List.length_nil]; omega), Option.bind_some, g10, scat_mk (by rw [← eh]; simp only [List.length_cons, List.length_nil]; omega), Option.bind_some, ← eh]
    obtain ⟨z, hz⟩ := format_loop (fu := fu) hN (fun f hf => hF.fb hf) (by have := hF.fib; omega) fu 0 (headN n ++ [10]) (by omega) (by have := hF.fib; omega) (by simp; omega)
    rw [show ((0 : Nat) : Int) = 0 from rfl] at hz
    rw [hz, Option.bind_some, List.drop_zero]
    rfl
  · rw [Bool.not_eq_true] at h
    rw [h]
    rfl
theorem line_ge {n : Network} (hn : NetN n) {f : Fiber} (h : FibB n f) : ∀ b ∈ lineF n f, 32 ≤ b.toNat := by
  have h1 : ∀ b ∈ nm n f.A, 32 ≤ b.toNat := fun b hb => by have := (nm_facts hn h.a).1 b hb; omega
  have h2 : ∀ b ∈ nm n f.B, 32 ≤ b.toNat := fun b hb => by have := (nm_facts hn h.b).1 b hb; omega
  have h3 : ∀ b ∈ itoa f.Length, 32 ≤ b.toNat := fun b hb => by have := (itoa_facts h.l).2.2.2 b hb; omega
  have h4 : ∀ b ∈ itoa f.Risk, 32 ≤ b.toNat := fun b hb => by have := (itoa_facts h.r).2.2.2 b hb; omega
  unfold lineF wordsF tailsOf
  split
  · simp only [List.cons_append, List.nil_append, List.append_nil, List.map_cons, List.map_nil, List.flatten_cons, List.flatten_nil, List.forall_mem_append, List.forall_mem_cons]
    repeat' apply And.intro
    all_goals first | assumption | decide | (intro b hb; cases hb)
  · simp only [List.cons_append, List.nil_append, List.append_nil, List.map_cons, List.map_nil, List.flatten_cons, List.flatten_nil, List.forall_mem_append, List.forall_mem_cons]
    repeat' apply And.intro
    all_goals first | assumption | decide | (intro b hb; cases hb)
theorem line_not {n : Network} (hn : NetN n) {f : Fiber} (h : FibB n f) {c : UInt8} (hc : c.toNat < 32) : c ∉ lineF n f := fun hm => by
  have := line_ge hn h c hm
  omega
theorem split_line {n : Network} (hn : NetN n) {f : Fiber} (h : FibB n f) : splitL 32 (lineF n f) = [102, 105, 98, 101, 114] :: wordsF n f := by
  refine splitL_join (by decide) fun p hp => ?_
  unfold wordsF at hp
  have h1 := nm_not hn h.a (show (32 : UInt8).toNat < 48 by decide)
  have h2 := nm_not hn h.b (show (32 : UInt8).toNat < 48 by decide)
  have h3 := itoa_not h.l (c := 32) (by decide)
  have h4 := itoa_not h.r (c := 32) (by decide)
  split at hp
  · simp only [List.cons_append, List.nil_append, List.mem_cons, List.not_mem_nil, or_false] at hp
    rcases hp with rfl | rfl | rfl | rfl | rfl
    all_goals first | assumption | decide
  · simp only [List.cons_append, List.nil_append, List.append_nil, List.mem_cons, List.not_mem_nil, or_false] at hp
    rcases hp with rfl | rfl | rfl
    all_goals assumption
theorem idx1 {α : Type} {a b : α} {l : List α} : idx (a :: b :: l) 1 = some b := rfl
theorem idx2 {α : Type} {a b c : α} {l : List α} : idx (a :: b :: c :: l) 2 = some c := rfl
theorem idx3 {α : Type} {a b c d : α} {l : List α} : idx (a :: b :: c :: d :: l) 3 = some d := rfl
theorem idx5 {α : Type} {a b c d e f : α} {l : List α} : idx (a :: b :: c :: d :: e :: f :: l) 5 = some f := rfl
theorem readFiber_back {fu : Nat} (hfu : 2097153 ≤ fu) {n : Network} (hn : NetN n) (hl : n.Nodes.length ≤ 8) (m : List Fiber) {f : Fiber} (h : FibB n f) : impl_readFiber fu ⟨n.Nodes, m⟩ (mkB (lineF n f)) = some (f, true) := by
  have hlen := h.len hn
  unfold impl_readFiber strings_Split
  rw [show (⟨#[32]⟩ : ByteArray) = mkB [32] from rfl, splitO_mk (by omega), split_line hn h, Option.bind_some]
  have ia := indexOf_back hfu hn hl h.a
  have ib := indexOf_back hfu hn hl h.b
  unfold wordsF impl_ParseInt
  by_cases hr : f.Risk > 0
  · rw [if_pos hr]
    simp only [List.cons_append, List.nil_append, List.map_cons, List.map_nil]
    rw [if_pos (by simp), Option.bind_some, if_neg (by simp), idx1, Option.bind_some, ia, Option.bind_some, idx2, Option.bind_some, ib, Option.bind_some, idx3, Option.bind_some, parse_back h.l, Option.bind_some, if_pos (by simp), idx5, Option.bind_some, parse_back h.r, Option.bind_some]
    rfl
  · have h0 : f.Risk = 0 := by have := h.r.1; omega
    rw [if_neg hr]
    simp only [List.cons_append, List.nil_append, List.append_nil, List.map_cons, List.map_nil]
    rw [if_neg (by simp), Option.bind_some, if_neg (by simp), idx1, Option.bind_some, ia, Option.bind_some, idx2, Option.bind_some, ib, Option.bind_some, idx3, Option.bind_some, parse_back h.l, Option.bind_some, if_neg (by simp)]
    cases f
    simp only at h0
    subst h0
    rfl
theorem readFiber_ex {fu : Nat} (hfu : 2097153 ≤ fu) {n : Network} (hl : n.Nodes.length ≤ 2097152) {l : List UInt8} (h : l.length ≤ 1000000) : ∃ f b, impl_readFiber fu n (mkB l) = some (f, b) := by
  unfold impl_readFiber strings_Split impl_ParseInt
  rw [show (⟨#[32]⟩ : ByteArray) = mkB [32] from rfl, splitO_mk (by omega), Option.bind_some]
  have hs := splitL_len 32 l
  generalize (splitL 32 l).map mkB = w
  by_cases h4 : (w.length : Int) = 4
  · have i1 := idx_in (l := w) (i := 1) (by omega)
    have i2 := idx_in (l := w) (i := 2) (by omega)
    have i3 := idx_in (l := w) (i := 3) (by omega)
    obtain ⟨n1, b1, p1, -⟩ := parse_ex w[3]
    rw [if_neg (by simp [h4]), Option.bind_some, if_neg (by decide), show (1 : Int) = ((1 : Nat) : Int) from rfl, i1, Option.bind_some, indexOf_eq _ _ (by omega) hl, Option.bind_some, show (2 : Int) = ((2 : Nat) : Int) from rfl, i2, Option.bind_some, indexOf_eq _ _ (by omega) hl, Option.bind_some, show (3 : Int) = ((3 : Nat) : Int) from rfl, i3, Option.bind_some, p1, Option.bind_some, if_neg (by simp [h4])]
    repeat' split
    all_goals exact ⟨_, _, rfl⟩
  · by_cases h6 : (w.length : Int) = 6
    · have i1 := idx_in (l := w) (i := 1) (by omega)
      have i2 := idx_in (l := w) (i := 2) (by omega)
      have i3 := idx_in (l := w) (i := 3) (by omega)
      have i5 := idx_in (l := w) (i := 5) (by omega)
      obtain ⟨n1, b1, p1, -⟩ := parse_ex w[3]
      obtain ⟨n2, b2, p2, -⟩ := parse_ex w[5]
      rw [if_pos (by simp [h6]), Option.bind_some, if_neg (by simp [h6]), show (1 : Int) = ((1 : Nat) : Int) from rfl, i1, Option.bind_some, indexOf_eq _ _ (by omega) hl, Option.bind_some, show (2 : Int) = ((2 : Nat) : Int) from rfl, i2, Option.bind_some, indexOf_eq _ _ (by omega) hl, Option.bind_some, show (3 : Int) = ((3 : Nat) : Int) from rfl, i3, Option.bind_some, p1, Option.bind_some, if_pos (by simp [h6]), show (5 : Int) = ((5 : Nat) : Int) from rfl, i5, Option.bind_some, p2, Option.bind_some]
      repeat' split
      all_goals exact ⟨_, _, rfl⟩
    · rw [if_pos (by simpa using h4), Option.bind_some, if_pos (by simpa using h6)]
      exact ⟨_, _, rfl⟩
end AT

namespace AT
theorem sort_ok {fu : Nat} (hfu : 2097153 ≤ fu) (l : List Int) (h : l.length ≤ 2097152) : ∃ l', slices_Sort_int_int fu l = some l' ∧ l'.Perm l ∧ l'.Pairwise fun a b => a ≤ b := by
  unfold slices_Sort_int_int sortI
  rw [if_pos (by omega)]
  refine ⟨_, rfl, List.mergeSort_perm _ _, ?_⟩
  have := List.pairwise_mergeSort (le := fun x y : Int => decide (x ≤ y)) (fun a b c h1 h2 => by simp only [decide_eq_true_eq] at *; omega) (fun a b => by simp only [Bool.or_eq_true, decide_eq_true_eq]; omega) l
  exact this.imp fun h => by simpa using h
theorem compT_id : ∀ (l : List Int) (p : Int), (p :: l).Nodup → compT p l = l
  | [], _, _ => rfl
  | b :: l, p, h => by
    rw [List.nodup_cons] at h
    unfold compT
    rw [if_neg (fun e => h.1 (by rw [e]; exact List.mem_cons_self)), compT_id l b h.2]
theorem compI_id (l : List Int) (h : l.Nodup) : compI l = l := by
  cases l with
  | nil => rfl
  | cons a l => show a :: compT a l = a :: l; rw [compT_id l a h]
theorem compact_ok {fu : Nat} (l : List Int) (hn : l.Nodup) (hl : l.length ≤ 2097152) (hfu : 2097153 ≤ fu) : slices_Compact_int_int fu l = some l := by
  unfold slices_Compact_int_int
  rw [compI_id l hn]
def meets (a b : List Int) : Bool := a.any fun x => b.any fun y => y == x
theorem common_loop {fu : Nat} (a b : List Int) (ha : a.length ≤ 2097152) (hb : b.length ≤ 2097152) (hfu : 2097153 ≤ fu) : ∀ (fk i : Nat) (out : List Int), a.length - i < fk → i ≤ a.length → out.length ≤ i → ∃ z, impl_common_L1 fu a b fk out i = some (out ++ (a.drop i).filter (fun x => b.any fun y => y == x), z) := by
  intro fk
  induction fk with
  | zero => intro i _ h; omega
  | succ fk ih =>
    intro i out hk hi ho
    rw [impl_common_L1]
    by_cases h : i < a.length
    · have h' : (i : Int) < (a.length : Int) := by omega
      simp only [h', decide_true, if_true, idx_in h, Option.bind_some, containsI_eq b a[i] (show b.length < fu by omega) hb]
      rw [← List.getElem_cons_drop h, List.filter_cons]
      by_cases hc : (b.any fun y => y == a[i]) = true
      · rw [if_pos hc, if_pos hc, app_ok (by simp; omega), Option.bind_some, w64_inc h (by omega)]
        obtain ⟨z, hz⟩ := ih (i + 1) (out ++ [a[i]]) (by omega) h (by simp; omega)
        exact ⟨z, by rw [hz, List.append_assoc]; rfl⟩
      · rw [if_neg hc, if_neg hc, w64_inc h (by omega)]
        exact ih (i + 1) out (by omega) h (by omega)
    · obtain rfl : i = a.length := by omega
      have h' : ¬ ((a.length : Nat) : Int) < (a.length : Int) := by omega
      simp only [h', decide_false, Bool.false_eq_true, if_false, List.drop_length, List.filter_nil, List.append_nil]
      exact ⟨_, rfl⟩
theorem filter_pos {a b : List Int} : (0 < (a.filter fun x => b.any fun y => y == x).length) ↔ meets a b = true := by
  unfold meets
  rw [List.length_pos_iff_exists_mem, List.any_eq_true]
  constructor
  · rintro ⟨x, hx⟩
    rw [List.mem_filter] at hx
    exact ⟨x, hx⟩
  · rintro ⟨x, hx⟩
    exact ⟨x, List.mem_filter.2 hx⟩
theorem common_big {fu : Nat} (a b : List Int) (ha : a.length ≤ 2097152) (hn : a.Nodup) (hb : b.length ≤ 2097152) (hfu : 2097153 ≤ fu) : ∃ c, impl_common fu a b = some c ∧ decide ((c.length : Int) > 0) = meets a b := by
  unfold impl_common
  obtain ⟨z, hz⟩ := common_loop a b (by omega) hb hfu fu 0 [] (by omega) (by omega) (by simp)
  rw [show ((0 : Nat) : Int) = 0 from rfl] at hz
  simp only [hz, Option.bind_some, List.nil_append, List.drop_zero]
  have hlen : (a.filter fun x => b.any fun y => y == x).length ≤ 2097152 := Nat.le_trans (List.length_filter_le _ _) ha
  obtain ⟨l', h1, h2, -⟩ := sort_ok hfu (a.filter fun x => b.any fun y => y == x) hlen
  have hnd : l'.Nodup := h2.nodup_iff.2 (hn.filter _)
  have hl' := h2.length_eq
  rw [h1, Option.bind_some, compact_ok l' hnd (by omega) hfu]
  refine ⟨l', rfl, ?_⟩
  rw [Bool.eq_iff_iff, decide_eq_true_eq, ← filter_pos]
  omega
theorem common_ok {fu : Nat} (a b : List Int) (ha : a.length ≤ 12) (hn : a.Nodup) (hb : b.length ≤ 2097152) (hfu : 2097153 ≤ fu) : ∃ c, impl_common fu a b = some c ∧ decide ((c.length : Int) > 0) = meets a b := common_big a b (by omega) hn hb hfu
end AT

namespace AT
theorem uses_eq {fu : Nat} (hfu : 2097153 ≤ fu) (r : Route) (g : List Int) (hr : r.Fibers.length ≤ 2097152) (hg : g.length ≤ 2097152) : spec_l4Uses fu r g = some (meets r.Fibers g) := by
  unfold spec_l4Uses
  rw [scan_all (l := r.Fibers) (G := spec_l4Uses_L1 fu r g) (fun x => g.any fun y => y == x) (fun i => true) (by omega)
    (fun fk i hi => by
      have h' : (i : Int) < (r.Fibers.length : Int) := by omega
      rw [spec_l4Uses_L1]
      simp only [h', decide_true, if_true, idx_in hi, Option.bind_some, l1Has_eq g r.Fibers[i] (show g.length < fu by omega) hg])
    (fun fk => by rw [spec_l4Uses_L1, if_neg (by simp)]) fu (by omega)]
  unfold meets
  cases r.Fibers.any fun x => g.any fun y => y == x <;> rfl
def blkOk (b : Block) : Bool := decide (0 ≤ b.First) && (decide (1 ≤ b.Count) && decide (b.First + b.Count ≤ 24))
theorem l8Good_eq (fu : Nat) (b : Block) : spec_l8Good fu b = some (blkOk b) := by
  unfold spec_l8Good blkOk
  simp only [l1In_eq, Option.bind_some]
  by_cases h : 0 ≤ b.First ∧ b.First ≤ 23
  · have hc : (decide (0 ≤ b.First) && decide (b.First ≤ 23)) = true := by simpa using h
    rw [w64_in (by omega) (by omega)]
    simp only [hc, if_true, Option.bind_some, Option.some.injEq]
    rw [Bool.eq_iff_iff]
    simp only [Bool.and_eq_true, decide_eq_true_eq]
    omega
  · have hc : (decide (0 ≤ b.First) && decide (b.First ≤ 23)) = false := by rw [Bool.eq_false_iff]; simp only [ne_eq, Bool.and_eq_true, decide_eq_true_eq]; exact h
    simp only [hc, Bool.false_eq_true, if_false, Option.bind_some, Option.some.injEq]
    rw [Bool.eq_iff_iff]
    simp only [Bool.and_eq_true, decide_eq_true_eq, Bool.false_eq_true, false_iff]
    omega
theorem implBlk_eq (fu : Nat) (b : Block) : impl_IsValidBlock fu b = some (blkOk b) := by
  unfold impl_IsValidBlock blkOk
  simp only [within_eq, Option.bind_some]
  by_cases h0 : 0 ≤ b.First
  · by_cases h : 1 ≤ b.Count ∧ b.Count ≤ 24
    · have hc : (decide (1 ≤ b.Count) && decide (b.Count ≤ 24)) = true := by simpa using h
      rw [w64_in (by omega) (by omega)]
      simp only [ge_iff_le, h0, hc, decide_true, if_true, Option.bind_some, Option.some.injEq, Bool.true_and]
      rw [Bool.eq_iff_iff]
      simp only [Bool.and_eq_true, decide_eq_true_eq]
      omega
    · have hc : (decide (1 ≤ b.Count) && decide (b.Count ≤ 24)) = false := by rw [Bool.eq_false_iff]; simp only [ne_eq, Bool.and_eq_true, decide_eq_true_eq]; exact h
      simp only [ge_iff_le, h0, hc, decide_true, if_true, Bool.false_eq_true, if_false, Option.bind_some, Option.some.injEq]
      rw [Bool.eq_iff_iff]
      simp only [Bool.and_eq_true, decide_eq_true_eq, Bool.false_eq_true, false_iff]
      omega
  · simp [h0]
def bits (b : Block) : Int := (2 ^ b.Count.toNat - 1) * 2 ^ b.First.toNat
theorem pow_le24 {k : Nat} (h : k ≤ 24) : (1 : Int) ≤ 2 ^ k ∧ (2 : Int) ^ k ≤ 16777216 := by
  have h1 : (2 : Nat) ^ k ≤ 2 ^ 24 := Nat.pow_le_pow_right (by omega) h
  have h2 : 1 ≤ (2 : Nat) ^ k := Nat.one_le_two_pow
  have h3 : ((2 ^ k : Nat) : Int) = 2 ^ k := by norm_cast
  omega
theorem bits_bound {b : Block} (h : blkOk b = true) : 0 ≤ bits b ∧ bits b < 16777216 := by
  simp only [blkOk, Bool.and_eq_true, decide_eq_true_eq] at h
  have e : (2 : Int) ^ b.Count.toNat * 2 ^ b.First.toNat = 2 ^ (b.Count.toNat + b.First.toNat) := (Int.pow_add _ _ _).symm
  have h1 := pow_le24 (show b.Count.toNat ≤ 24 by omega)
  have h2 := pow_le24 (show b.First.toNat ≤ 24 by omega)
  have h3 := pow_le24 (show b.Count.toNat + b.First.toNat ≤ 24 by omega)
  unfold bits
  rw [Int.sub_mul, e, Int.one_mul]
  refine ⟨?_, by omega⟩
  have h4 : (2 : Int) ^ b.First.toNat ≤ 2 ^ (b.Count.toNat + b.First.toNat) := by
    have : (2 : Nat) ^ b.First.toNat ≤ 2 ^ (b.Count.toNat + b.First.toNat) := Nat.pow_le_pow_right (by omega) (by omega)
    have e1 : ((2 ^ b.First.toNat : Nat) : Int) = 2 ^ b.First.toNat := by norm_cast
    have e2 : ((2 ^ (b.Count.toNat + b.First.toNat) : Nat) : Int) = 2 ^ (b.Count.toNat + b.First.toNat) := by norm_cast
    omega
  omega
theorem shl_bits {b : Block} (h : blkOk b = true) : ((shl 1 b.Count).bind fun q => (shl (w64 (q - 1)) b.First).bind fun q2 => some q2) = some (bits b) := by
  have hb := bits_bound h
  simp only [blkOk, Bool.and_eq_true, decide_eq_true_eq] at h
  have h1 := pow_le24 (show b.Count.toNat ≤ 24 by omega)
  have m1 : min b.Count.toNat 64 = b.Count.toNat := by omega
  have m2 : min b.First.toNat 64 = b.First.toNat := by omega
  unfold shl
  rw [if_neg (show ¬ b.Count < 0 by omega), Option.bind_some, if_neg (show ¬ b.First < 0 by omega), m1, m2, Int.one_mul, w64_in (n := 2 ^ b.Count.toNat) (by omega) (by omega), w64_in (n := 2 ^ b.Count.toNat - 1) (by omega) (by omega)]
  have : (2 ^ b.Count.toNat - 1) * 2 ^ b.First.toNat = bits b := rfl
  rw [this, w64_in (by omega) (by omega)]
  rfl
theorem maskOf_eq {fu : Nat} {b : Block} (h : blkOk b = true) : impl_maskOf fu b = some (bits b) := shl_bits h
theorem wu64_in {n : Int} (h : 0 ≤ n) (h' : n < 18446744073709551616) : wu64 n = n := by unfold wu64; omega
theorem l8Bits_eq {fu : Nat} {b : Block} (h : blkOk b = true) : spec_l8Bits fu b = some (bits b) := by
  unfold spec_l8Bits
  have h' := h
  simp only [blkOk, Bool.and_eq_true, decide_eq_true_eq] at h'
  rw [wu64_in (by omega) (by omega), wu64_in (by omega) (by omega)]
  exact shl_bits h
def lightOk (n : Network) (x : Light) : Bool := (decide (1 ≤ x.Id) && decide (x.Id ≤ 999)) && ((rnodes n x.Route).isSome && blkOk x.Block)
theorem isLight_eq {fu : Nat} (hfu : 2097153 ≤ fu) (n : Network) (x : Light) (hB : NetB n) (hr : x.Route.Fibers.length ≤ 2097152) : impl_isLight fu n x = some (lightOk n x) := by
  unfold impl_isLight lightOk
  rw [visited_eq hfu n x.Route hB.2 hB.1.1 hr]
  simp only [within_eq, implBlk_eq, Option.bind_some]
  cases rnodes n x.Route with
  | none => simp
  | some o => cases hc : (decide (1 ≤ x.Id) && decide (x.Id ≤ 999)) <;> simp [hc]
theorem l9Light_eq {fu : Nat} (hfu : 2097153 ≤ fu) (n : Network) (x : Light) (hB : NetB n) (hn : netOk n = true) (hr : x.Route.Fibers.length ≤ 2097152) : spec_l9Light fu n x = some (lightOk n x) := by
  unfold spec_l9Light lightOk
  simp only [l1In_eq, l8Good_eq, l4Good_eq hfu n x.Route hB hr, hn, Bool.true_and, Option.bind_some]
  cases hc : (decide (1 ≤ x.Id) && decide (x.Id ≤ 999))
  · simp
  · cases (rnodes n x.Route).isSome <;> simp
def coll (a b : Light) : Bool := meets a.Route.Fibers b.Route.Fibers && (band (bits a.Block) (bits b.Block) != 0)
structure LightF (n : Network) (x : Light) : Prop where
  nodup : x.Route.Fibers.Nodup
  short : x.Route.Fibers.length ≤ 7
  blk : blkOk x.Block = true
  route : ∃ o, rnodes n x.Route = some o
  id : 1 ≤ x.Id ∧ x.Id ≤ 999
theorem lightF {n : Network} {x : Light} (hn : netOk n = true) (h : lightOk n x = true) : LightF n x := by
  unfold lightOk at h
  simp only [Bool.and_eq_true, decide_eq_true_eq] at h
  obtain ⟨h1, h2, h3⟩ := h
  obtain ⟨o, ho⟩ := Option.isSome_iff_exists.1 h2
  have hf := rnodes_facts (netF hn) ho
  exact ⟨hf.2.2.1, hf.2.2.2.1, h3, ⟨o, ho⟩, h1⟩
theorem l9Collide_eq {fu : Nat} (hfu : 2097153 ≤ fu) {n : Network} {a b : Light} (ha : LightF n a) (hb : LightF n b) : spec_l9Collide fu a b = some (coll a b) := by
  unfold spec_l9Collide coll
  have h1 := ha.short
  have h2 := hb.short
  rw [uses_eq hfu a.Route b.Route.Fibers (by omega) (by omega)]
  simp only [l8Bits_eq ha.blk, l8Bits_eq hb.blk, Option.bind_some]
  cases meets a.Route.Fibers b.Route.Fibers <;> simp
theorem and_of (q m : Bool) : ((if q = true then some m else some false).bind fun c => some c) = some (m && q) := by cases q <;> cases m <;> rfl
theorem collide_eq {fu : Nat} (hfu : 2097153 ≤ fu) {n : Network} {a b : Light} (ha : LightF n a) (hb : LightF n b) : impl_collide fu a b = some (coll a b) := by
  unfold impl_collide coll
  have h1 := ha.short
  have h2 := hb.short
  obtain ⟨c, hc, hd⟩ := common_ok (fu := fu) a.Route.Fibers b.Route.Fibers (by omega) ha.nodup (by omega) hfu
  rw [maskOf_eq ha.blk, Option.bind_some, maskOf_eq hb.blk, Option.bind_some, hc, Option.bind_some, hd]
  exact and_of _ _
theorem scan_prev {α R : Type} {l : List α} {G : Nat → Int → Option (Out Int R)} (p : Nat → Bool) (r : Nat → R) (hn : (l.length : Int) ≤ 9223372036854775807)
    (hG : ∀ fk (i : Nat) (h : i < l.length), (∀ j, j < i → p j = false) → G (fk + 1) i = if p i = true then some (.ret (r i)) else G fk (w64 ((i : Int) + 1)))
    (hz : ∀ fk, G (fk + 1) l.length = some (.next (l.length : Int))) : ∀ (fk i : Nat), l.length - i < fk → i ≤ l.length → (∀ j, j < i → p j = false) →
    (∃ k, k < l.length ∧ i ≤ k ∧ p k = true ∧ (∀ j, j < k → p j = false) ∧ G fk i = some (.ret (r k))) ∨ ((∀ j, j < l.length → p j = false) ∧ G fk i = some (.next (l.length : Int))) := by
  intro fk
  induction fk with
  | zero => intro i h; omega
  | succ fk ih =>
    intro i hk hi hp
    by_cases h : i < l.length
    · rw [hG fk i h hp]
      by_cases hc : p i = true
      · rw [if_pos hc]
        exact .inl ⟨i, h, Nat.le_refl _, hc, hp, rfl⟩
      · rw [if_neg hc, w64_inc h hn]
        rw [Bool.not_eq_true] at hc
        have hp' : ∀ j, j < i + 1 → p j = false := fun j hj => by
          rcases Nat.lt_or_ge j i with h' | h'
          · exact hp j h'
          · obtain rfl : j = i := by omega
            exact hc
        rcases ih (i + 1) (by omega) h hp' with ⟨k, k1, k2, k3, k4, k5⟩ | ⟨h1, h2⟩
        · exact .inl ⟨k, k1, by omega, k3, k4, k5⟩
        · exact .inr ⟨h1, h2⟩
    · obtain rfl : i = l.length := by omega
      rw [hz]
      exact .inr ⟨hp, rfl⟩
theorem scan_any {α R : Type} {l : List α} {G : Nat → Int → Option (Out Int R)} (p : Nat → Bool) (r : R) (hn : (l.length : Int) ≤ 9223372036854775807)
    (hG : ∀ fk (i : Nat) (h : i < l.length), (∀ j, j < i → p j = false) → G (fk + 1) i = if p i = true then some (.ret r) else G fk (w64 ((i : Int) + 1)))
    (hz : ∀ fk, G (fk + 1) l.length = some (.next (l.length : Int))) (fk : Nat) (hk : l.length < fk) : G fk 0 = some (if (List.range l.length).any p = true then .ret r else .next (l.length : Int)) := by
  rcases scan_prev p (fun _ => r) hn hG hz fk 0 (by omega) (by omega) (fun j h => by omega) with ⟨k, k1, -, k3, -, k5⟩ | ⟨h1, h2⟩
  · rw [if_pos (List.any_eq_true.2 ⟨k, List.mem_range.2 k1, k3⟩)]
    exact k5
  · rw [if_neg]
    · exact h2
    · intro h
      obtain ⟨k, k1, k2⟩ := List.any_eq_true.1 h
      rw [h1 k (List.mem_range.1 k1)] at k2
      cases k2
def l0 : Light := ⟨0, ⟨0, []⟩, ⟨0, 0⟩⟩
def planBad (n : Network) (L : List Light) (i : Nat) : Bool := !lightOk n (gd L i l0) || ((decide (0 < i) && decide ((gd L (i - 1) l0).Id ≥ (gd L i l0).Id)) || (L.take i).any fun y => coll y (gd L i l0))
def planOk (p : Plan) : Bool := netOk p.Network && (decide (p.Lights.length ≤ 12) && !((List.range p.Lights.length).any (planBad p.Network p.Lights)))
def PlanB (p : Plan) : Prop := NetB p.Network ∧ p.Lights.length ≤ 2097152 ∧ ∀ x ∈ p.Lights, x.Route.Fibers.length ≤ 2097152
theorem prev_ok {n : Network} {L : List Light} {i : Nat} (h : i < L.length) (hp : ∀ j, j < i → planBad n L j = false) : ∀ y ∈ L.take i, lightOk n y = true := by
  intro y hy
  obtain ⟨j, hj, rfl⟩ := List.mem_iff_getElem.1 hy
  rw [List.length_take] at hj
  rw [List.getElem_take]
  have := hp j (by omega)
  unfold planBad at this
  rw [Bool.or_eq_false_iff, gd_in l0 (show j < L.length by omega)] at this
  simpa using this.1
theorem containsC_eq {fu : Nat} (hfu : 2097153 ≤ fu) {n : Network} (l : List Light) (x : Light) (hl : l.length ≤ 2097152) (hL : ∀ y ∈ l, LightF n y) (hx : LightF n x) : slices_ContainsFunc_impl_Light_impl_Light_of_IsValidPlan_c1 fu l x = some (l.any fun y => coll y x) := by
  unfold slices_ContainsFunc_impl_Light_impl_Light_of_IsValidPlan_c1 slices_IndexFunc_impl_Light_impl_Light_of_IsValidPlan_c1
  rw [scan_all (l := l) (G := slices_IndexFunc_impl_Light_impl_Light_of_IsValidPlan_c1_L1 fu l x) (fun y => coll y x) (fun i => (i : Int)) (by omega)
    (fun fk i hi => by
      have h' : (i : Int) < (l.length : Int) := by omega
      rw [slices_IndexFunc_impl_Light_impl_Light_of_IsValidPlan_c1_L1]
      simp only [h', decide_true, if_true, idx_in hi, Option.bind_some, impl_IsValidPlan_c1, collide_eq hfu (hL _ (List.getElem_mem hi)) hx])
    (fun fk => by rw [slices_IndexFunc_impl_Light_impl_Light_of_IsValidPlan_c1_L1, if_neg (by simp)]) fu (by omega)]
  cases l.any fun y => coll y x <;> simp [Out.on]
theorem implPlan_eq {fu : Nat} (hfu : 2097153 ≤ fu) (p : Plan) (hB : PlanB p) : impl_IsValidPlan fu p = some (planOk p) := by
  obtain ⟨hN, hL, hR⟩ := hB
  unfold impl_IsValidPlan planOk
  rw [implNet_eq hfu _ hN, Option.bind_some]
  cases hn : netOk p.Network
  · rfl
  · simp only [Bool.not_true, Bool.false_eq_true, if_false, Option.bind_some, Bool.true_and]
    by_cases h12 : p.Lights.length ≤ 12
    · have h12' : ¬ (p.Lights.length : Int) > 12 := by omega
      simp only [h12', decide_false, Bool.false_eq_true, if_false, h12, decide_true, Bool.true_and]
      rw [scan_any (l := p.Lights) (G := impl_IsValidPlan_L1 fu p) (planBad p.Network p.Lights) false (by omega)
        (fun fk i hi hp => by
          have h' : (i : Int) < (p.Lights.length : Int) := by omega
          have hr := hR _ (gd_mem l0 hi)
          rw [impl_IsValidPlan_L1]
          simp only [h', decide_true, if_true, idx_gd l0 hi, Option.bind_some, isLight_eq hfu _ _ hN hr, sub_take (show i ≤ p.Lights.length by omega)]
          by_cases hl : lightOk p.Network (gd p.Lights i l0) = true
          · have hf := lightF hn hl
            have hc := containsC_eq hfu (p.Lights.take i) (gd p.Lights i l0) (by simp; omega) (fun y hy => lightF hn (prev_ok hi hp y hy)) hf
            simp only [planBad, hl, Bool.not_true, Bool.false_eq_true, if_false, hc, Option.bind_some, Bool.false_or]
            by_cases h0 : 0 < i
            · have h0' : (i : Int) > 0 := by omega
              simp only [h0', h0, decide_true, if_true, w64_dec h0 (show i ≤ 2097152 by omega), idx_gd l0 (show i - 1 < p.Lights.length by omega), Option.bind_some, Bool.true_and]
              by_cases hid : (gd p.Lights (i - 1) l0).Id ≥ (gd p.Lights i l0).Id
              · simp [hid]
              · simp only [hid, decide_false, Bool.false_eq_true, if_false, Bool.false_or, Option.bind_some]
            · have h0' : ¬ (i : Int) > 0 := by omega
              simp only [h0', h0, decide_false, Bool.false_eq_true, if_false, Bool.false_and, Bool.false_or, Option.bind_some]
          · rw [Bool.not_eq_true] at hl
            simp [planBad, hl])
        (fun fk => by rw [impl_IsValidPlan_L1, if_neg (by simp)]) fu (by omega)]
      cases (List.range p.Lights.length).any (planBad p.Network p.Lights) <;> rfl
    · have h12' : (p.Lights.length : Int) > 12 := by omega
      simp [h12', h12]
theorem specPlan_eq {fu : Nat} (hfu : 2097153 ≤ fu) (p : Plan) (hB : PlanB p) : spec_l9Good fu p = some (planOk p) := by
  obtain ⟨hN, hL, hR⟩ := hB
  unfold spec_l9Good planOk
  rw [specNet_eq hfu _ hN, Option.bind_some]
  cases hn : netOk p.Network
  · rfl
  · simp only [Bool.not_true, Bool.false_eq_true, if_false, Option.bind_some, Bool.true_and]
    by_cases h12 : p.Lights.length ≤ 12
    · have h12' : ¬ (p.Lights.length : Int) > 12 := by omega
      simp only [h12', decide_false, Bool.false_eq_true, if_false, h12, decide_true, Bool.true_and]
      rw [scan_any (l := p.Lights) (G := spec_l9Good_L1 fu p) (planBad p.Network p.Lights) false (by omega)
        (fun fk i hi hp => by
          have h' : (i : Int) < (p.Lights.length : Int) := by omega
          have hr := hR _ (gd_mem l0 hi)
          rw [spec_l9Good_L1]
          simp only [h', decide_true, if_true, idx_gd l0 hi, Option.bind_some, l9Light_eq hfu _ _ hN hn hr]
          by_cases hl : lightOk p.Network (gd p.Lights i l0) = true
          · have hf := lightF hn hl
            have hc : spec_l9Good_L2 fu p i fu 0 = some (if (List.range (p.Lights.take i).length).any (fun k => coll (gd p.Lights k l0) (gd p.Lights i l0)) = true then .ret false else .next ((p.Lights.take i).length : Int)) :=
              scan_any (l := p.Lights.take i) (G := spec_l9Good_L2 fu p i) (fun k => coll (gd p.Lights k l0) (gd p.Lights i l0)) false (by simp; omega)
                (fun fk k hk _ => by
                  have hk' : k < i := by simp at hk; omega
                  have hk2 : (k : Int) < (i : Int) := by omega
                  have hfk := lightF hn (prev_ok hi hp (gd p.Lights k l0) (by
                    rw [gd_in l0 (show k < p.Lights.length by omega)]
                    refine List.mem_iff_getElem.2 ⟨k, hk, by rw [List.getElem_take]⟩))
                  rw [spec_l9Good_L2]
                  simp only [hk2, decide_true, if_true, idx_gd l0 hi, idx_gd l0 (show k < p.Lights.length by omega), Option.bind_some, l9Collide_eq hfu hfk hf])
                (fun fk => by
                  have : (p.Lights.take i).length = i := by simp; omega
                  rw [this, spec_l9Good_L2, if_neg (by simp)]) fu (by simp; omega)
            have ha : (List.range (p.Lights.take i).length).any (fun k => coll (gd p.Lights k l0) (gd p.Lights i l0)) = (p.Lights.take i).any fun y => coll y (gd p.Lights i l0) := by
              rw [Bool.eq_iff_iff, List.any_eq_true, List.any_eq_true]
              constructor
              · rintro ⟨k, k1, k2⟩
                have k1' := List.mem_range.1 k1
                have hk' : k < i := by simp at k1'; omega
                rw [gd_in l0 (show k < p.Lights.length by omega)] at k2
                exact ⟨_, List.mem_iff_getElem.2 ⟨k, k1', by rw [List.getElem_take]⟩, k2⟩
              · rintro ⟨y, y1, y2⟩
                obtain ⟨k, k1, rfl⟩ := List.mem_iff_getElem.1 y1
                have hk' : k < i := by simp at k1; omega
                refine ⟨k, List.mem_range.2 k1, ?_⟩
                rw [gd_in l0 (show k < p.Lights.length by omega)]
                rw [List.getElem_take] at y2
                exact y2
            rw [ha] at hc
            simp only [planBad, hl, Bool.not_true, Bool.false_eq_true, if_false, hc, Option.bind_some, Bool.false_or]
            by_cases h0 : 0 < i
            · have h0' : (i : Int) > 0 := by omega
              simp only [h0', h0, decide_true, if_true, w64_dec h0 (show i ≤ 2097152 by omega), idx_gd l0 (show i - 1 < p.Lights.length by omega), Option.bind_some, Bool.true_and]
              by_cases hid : (gd p.Lights (i - 1) l0).Id ≥ (gd p.Lights i l0).Id
              · simp [hid]
              · simp only [hid, decide_false, Bool.false_eq_true, if_false, Bool.false_or, Option.bind_some]
                cases (p.Lights.take i).any fun y => coll y (gd p.Lights i l0) <;> rfl
            · have h0' : ¬ (i : Int) > 0 := by omega
              simp only [h0', h0, decide_false, Bool.false_eq_true, if_false, Bool.false_and, Bool.false_or, Option.bind_some]
              cases (p.Lights.take i).any fun y => coll y (gd p.Lights i l0) <;> rfl
          · rw [Bool.not_eq_true] at hl
            simp [planBad, hl])
        (fun fk => by rw [spec_l9Good_L1, if_neg (by simp)]) fu (by omega)]
      cases (List.range p.Lights.length).any (planBad p.Network p.Lights) <;> rfl
    · have h12' : (p.Lights.length : Int) > 12 := by omega
      simp [h12', h12]
structure PlanF (p : Plan) : Prop where
  net : netOk p.Network = true
  short : p.Lights.length ≤ 12
  light : ∀ x ∈ p.Lights, LightF p.Network x
theorem planF {p : Plan} (h : planOk p = true) : PlanF p := by
  unfold planOk at h
  simp only [Bool.and_eq_true, decide_eq_true_eq, Bool.not_eq_true'] at h
  obtain ⟨h1, h2, h3⟩ := h
  refine ⟨h1, h2, fun x hx => ?_⟩
  obtain ⟨i, hi, rfl⟩ := List.mem_iff_getElem.1 hx
  rw [Bool.eq_false_iff] at h3
  have h6 : planBad p.Network p.Lights i = false := by
    rw [Bool.eq_false_iff]
    intro h7
    exact h3 (List.any_eq_true.2 ⟨i, List.mem_range.2 hi, h7⟩)
  unfold planBad at h6
  rw [Bool.or_eq_false_iff, gd_in l0 hi] at h6
  exact lightF h1 (by simpa using h6.1)
end AT

namespace AT
open Go.Lib (index occAt itoa)
theorem parseN_loop_ex {fu : Nat} (hfu : 2097153 ≤ fu) {l : List ByteArray} (hl : l.length ≤ 100000) {l2 : List ByteArray} (h2 : ∀ s ∈ l2, s.size ≤ 1000000) (hl2 : l2.length ≤ 100000) : ∀ (fk i : Nat) (m : List Fiber), i ≤ l2.length → l2.length - i < fk → m.length ≤ i →
    ∃ out, impl_ParseNetwork_L1 fu l l2 fk i m = some out ∧ (out = .ret (⟨[], []⟩, false) ∨ ∃ z m', out = .next (z, m') ∧ m'.length ≤ l2.length)
  | 0, i, m, hi, hf, hm => by omega
  | fk + 1, i, m, hi, hf, hm => by
    rw [impl_ParseNetwork_L1]
    by_cases h : i < l2.length
    · have hs := h2 _ (List.getElem_mem h)
      obtain ⟨f, b, hr⟩ := readFiber_ex (fu := fu) hfu (n := ⟨l, m⟩) (by simp only; omega) (l := btl l2[i]) (by rw [len_bl]; exact hs)
      rw [mk_bl] at hr
      rw [if_pos (by simpa using h), idx_in h, Option.bind_some, hr, Option.bind_some]
      cases b with
      | false => exact ⟨_, rfl, .inl rfl⟩
      | true =>
        rw [if_neg (by simp), app_ok (by simp; omega), Option.bind_some, w64_inc h (by omega)]
        exact parseN_loop_ex hfu hl h2 hl2 fk (i + 1) _ h (by omega) (by simp; omega)
    · have e : i = l2.length := by omega
      subst e
      rw [if_neg (by simp)]
      exact ⟨_, rfl, .inr ⟨_, _, rfl, hm⟩⟩
theorem copyN_eq {fu : Nat} {n : Network} (h : NetB n) : impl_copyNetwork fu n = some n := by
  unfold impl_copyNetwork
  rw [app_ok (by simp only [List.length_nil]; have := h.1.1; omega), Option.bind_some, app_ok (by simp only [List.length_nil]; have := h.2; omega), Option.bind_some]
  rfl
theorem zero_NB : NetB ⟨[], []⟩ := ⟨⟨by simp, by simp⟩, by simp⟩
theorem parts_mk {c : UInt8} {l : List UInt8} {k : Nat} (h : l.length ≤ k) : ∀ s ∈ (splitL c l).map mkB, s.size ≤ k := fun s hs => by
  obtain ⟨p, hp, rfl⟩ := List.mem_map.1 hs
  rw [size_mk]
  have := splitL_part c l p hp
  omega
theorem parseN_ex {fu : Nat} (hfu : 2097153 ≤ fu) (l : List UInt8) (h : l.length ≤ 1000000000) : ∃ m b, impl_ParseNetwork fu (mkB l) = some (m, b) ∧ (b = true → netOk m = true) ∧ NetB m := by
  unfold impl_ParseNetwork
  rw [linesOf_eq l h, Option.bind_some]
  by_cases hc : l.length ≤ 4000 ∧ l.getLast? = some 10
  · rw [if_pos hc, if_neg (by simp)]
    have h4 : l.dropLast.length ≤ 4000 := by rw [List.length_dropLast]; omega
    have hlen := splitL_len 10 l.dropLast
    have hpart := parts_mk (c := 10) (l := l.dropLast) (k := 4000) h4
    have hml : ((splitL 10 l.dropLast).map mkB).length = (splitL 10 l.dropLast).length := List.length_map ..
    generalize (splitL 10 l.dropLast).map mkB = L at hpart hml
    dsimp only
    have i0 : idx L 0 = some L[0] := idx_in (l := L) (i := 0) (by omega)
    have hs0 := hpart _ (List.getElem_mem (show 0 < L.length by omega))
    have hw := splitL_len 32 (btl L[0])
    have hwp := parts_mk (c := 32) (l := btl L[0]) (k := 4000) (by rw [len_bl]; exact hs0)
    have hwl : ((splitL 32 (btl L[0])).map mkB).length = (splitL 32 (btl L[0])).length := List.length_map ..
    rw [len_bl] at hw
    have hsp : strings_Split fu L[0] (⟨#[32]⟩ : ByteArray) = some ((splitL 32 (btl L[0])).map mkB) := by
      unfold strings_Split
      have := splitO_mk (l := btl L[0]) (c := 32) (by rw [len_bl]; omega)
      rwa [mk_bl] at this
    generalize (splitL 32 (btl L[0])).map mkB = W at hwp hwl hsp
    rw [i0, Option.bind_some, hsp, Option.bind_some, show (1 : Int) = ((1 : Nat) : Int) from rfl, sub_from (by omega), Option.bind_some, sub_from (by omega), Option.bind_some]
    have hn1 : (W.drop 1).length ≤ 4000 := by rw [List.length_drop]; omega
    have hn2 : (L.drop 1).length ≤ 4000 := by rw [List.length_drop]; omega
    obtain ⟨out, ho, hcase⟩ := parseN_loop_ex (fu := fu) hfu (l := W.drop 1) (by omega) (l2 := L.drop 1) (fun s hs => by have := hpart s (List.mem_of_mem_drop hs); omega) (by omega) fu 0 [] (by omega) (by omega) (by simp)
    rw [show ((0 : Nat) : Int) = 0 from rfl] at ho
    rw [ho, Option.bind_some]
    rcases hcase with rfl | ⟨z, m', rfl, hm'⟩
    · exact ⟨_, _, rfl, (fun h => by cases h), zero_NB⟩
    · have hB : NetB ⟨W.drop 1, m'⟩ := ⟨⟨by simp only; omega, fun e he => by have := hwp e (List.mem_of_mem_drop he); omega⟩, by simp only; omega⟩
      rw [Out.on]
      dsimp only
      rw [formatN_eq hfu _ hB, Option.bind_some]
      by_cases hk : netOk ⟨W.drop 1, m'⟩ = true
      · rw [if_pos hk, if_neg (by simp), Option.bind_some]
        split
        · exact ⟨_, _, rfl, (fun h => by cases h), zero_NB⟩
        · rw [copyN_eq hB, Option.bind_some]
          exact ⟨_, _, rfl, fun _ => hk, hB⟩
      · rw [if_neg hk, if_pos (by simp), Option.bind_some, if_pos rfl]
        exact ⟨_, _, rfl, (fun h => by cases h), zero_NB⟩
  · rw [if_neg hc, if_pos (by simp)]
    exact ⟨_, _, rfl, (fun h => by cases h), zero_NB⟩
theorem parseN_loop {fu : Nat} (hfu : 2097153 ≤ fu) {n : Network} (hn : NetN n) (hF : NetF n) : ∀ (fk i : Nat), i ≤ n.Fibers.length → n.Fibers.length - i < fk → ∃ z, impl_ParseNetwork_L1 fu n.Nodes ((n.Fibers.map (lineF n)).map mkB) fk i (n.Fibers.take i) = some (.next (z, n.Fibers))
  | 0, i, hi, hf => by omega
  | fk + 1, i, hi, hf => by
    have hl : ((n.Fibers.map (lineF n)).map mkB).length = n.Fibers.length := by simp
    rw [impl_ParseNetwork_L1, hl]
    by_cases h : i < n.Fibers.length
    · have hb := hF.fb (List.getElem_mem h)
      obtain ⟨z, hz⟩ := parseN_loop hfu hn hF fk (i + 1) h (by omega)
      have hm : (n.Fibers.take i).length = i := by rw [List.length_take]; omega
      have hf14 := hF.fib
      rw [if_pos (by simpa using h), idx_in (by omega), Option.bind_some, List.getElem_map, List.getElem_map, readFiber_back hfu hn hF.hi _ hb, Option.bind_some, if_neg (by simp), app_ok (by rw [hm]; simp; omega), Option.bind_some, w64_inc h (by omega)]
      refine ⟨z, ?_⟩
      rw [← hz, List.take_add_one, List.getElem?_eq_getElem h]
      rfl
    · have e : i = n.Fibers.length := by omega
      subst e
      rw [if_neg (by simp), List.take_length]
      exact ⟨_, rfl⟩
theorem netB_of {n : Network} (h : netOk n = true) : NetB n := by
  have hN := netN h
  have hF := netF h
  refine ⟨⟨by have := hF.hi; omega, fun e he => ?_⟩, by have := hF.fib; omega⟩
  obtain ⟨i, hi, rfl⟩ := List.mem_iff_getElem.1 he
  have := hN.ok i hi
  rw [gd_in nm0 hi] at this
  have := (name_facts this).2.2
  rw [len_bl] at this
  omega
theorem head_ge {n : Network} (hn : NetN n) : ∀ x ∈ n.Nodes.map btl, (∀ b ∈ x, 48 ≤ b.toNat) := fun x hx b hb => by
  obtain ⟨s, hs, rfl⟩ := List.mem_map.1 hx
  obtain ⟨i, hi, rfl⟩ := List.mem_iff_getElem.1 hs
  have := hn.ok i hi
  rw [gd_in nm0 hi] at this
  have := (name_facts this).1 b hb
  omega
theorem tails_mem {c b : UInt8} : ∀ {r : List (List UInt8)}, b ∈ tailsOf c r → b = c ∨ ∃ x ∈ r, b ∈ x
  | [], h => by simp [tailsOf] at h
  | x :: r, h => by
    have e : tailsOf c (x :: r) = c :: (x ++ tailsOf c r) := by simp [tailsOf]
    rw [e] at h
    rcases List.mem_cons.1 h with h | h
    · exact .inl h
    · rcases List.mem_append.1 h with h | h
      · exact .inr ⟨x, List.mem_cons_self .., h⟩
      · rcases tails_mem h with h | ⟨y, hy, h⟩
        · exact .inl h
        · exact .inr ⟨y, List.mem_cons_of_mem _ hy, h⟩
theorem headN_not {n : Network} (hn : NetN n) : (10 : UInt8) ∉ headN n := fun h => by
  unfold headN at h
  rcases List.mem_append.1 h with h | h
  · revert h; decide
  · rcases tails_mem h with h | ⟨x, hx, h⟩
    · revert h; decide
    · have := head_ge hn x hx 10 h
      revert this; decide
theorem parseN_back {fu : Nat} (hfu : 2097153 ≤ fu) {n : Network} (h : netOk n = true) : impl_ParseNetwork fu (mkB (fmtN n)) = some (n, true) := by
  have hN := netN h
  have hF := netF h
  have hB := netB_of h
  have hlen := fmtN_len h
  have hh := head_len hN hF.hi
  unfold impl_ParseNetwork
  have hL : impl_linesOf fu (mkB (fmtN n)) = some ((headN n :: n.Fibers.map (lineF n)).map mkB, true) := by
    unfold fmtN at hlen ⊢
    exact lines_back (by omega) (headN_not hN) fun p hp => by
      obtain ⟨f, hf, rfl⟩ := List.mem_map.1 hp
      exact line_not hN (hF.fb hf) (by decide)
  have hsp : strings_Split fu (mkB (headN n)) (⟨#[32]⟩ : ByteArray) = some (mkB [110, 111, 100, 101, 115] :: n.Nodes) := by
    unfold strings_Split
    rw [show (⟨#[32]⟩ : ByteArray) = mkB [32] from rfl, splitO_mk (by omega)]
    unfold headN
    rw [splitL_join (by decide) fun p hp hm => by have := head_ge hN p hp 32 hm; revert this; decide, List.map_cons, List.map_map]
    congr 2
    conv => rhs; rw [← List.map_id n.Nodes]
    exact List.map_congr_left fun s _ => mk_bl s
  rw [hL, Option.bind_some, if_neg (by simp)]
  rw [List.map_cons]
  have i0 : idx (mkB (headN n) :: (n.Fibers.map (lineF n)).map mkB) 0 = some (mkB (headN n)) := rfl
  rw [i0, Option.bind_some, hsp, Option.bind_some, show (1 : Int) = ((1 : Nat) : Int) from rfl, sub_from (by simp), Option.bind_some, sub_from (by simp), Option.bind_some]
  obtain ⟨z, hz⟩ := parseN_loop (fu := fu) hfu hN hF fu 0 (by omega) (by have := hF.fib; omega)
  rw [show ((0 : Nat) : Int) = 0 from rfl, List.take_zero] at hz
  show ((impl_ParseNetwork_L1 fu n.Nodes ((n.Fibers.map (lineF n)).map mkB) fu 0 []).bind _) = _
  rw [hz, Option.bind_some, Out.on]
  show ((impl_FormatNetwork fu n).bind _) = _
  rw [formatN_eq hfu n hB, if_pos h, Option.bind_some, if_neg (by simp), Option.bind_some, if_neg (by simp)]
  show ((impl_copyNetwork fu n).bind _) = _
  rw [copyN_eq hB]
  rfl
end AT

namespace AT
open Go.Lib (index occAt itoa)
def partsR (n : Network) : List Int → List Int → List (List UInt8)
  | f :: fs, v :: vs => itoa f :: nm n v :: partsR n fs vs
  | _, _ => []
def fmtR (n : Network) (r : Route) (o : List Int) : List UInt8 := nm n r.Start ++ tailsOf 46 (partsR n r.Fibers o.tail)
def fmtRt (n : Network) (r : Route) : List UInt8 := fmtR n r ((rnodes n r).getD [])
structure RtF (n : Network) (r : Route) (o : List Int) : Prop where
  s : 0 ≤ r.Start ∧ r.Start < (n.Nodes.length : Int)
  h : ∃ t, o = r.Start :: t
  l : o.length = r.Fibers.length + 1
  v : ∀ x ∈ o, 0 ≤ x ∧ x < (n.Nodes.length : Int)
  f : ∀ i ∈ r.Fibers, NumB i
  k : r.Fibers.length ≤ 7
theorem rwalk_head {F : List Fiber} : ∀ {fs out : List Int} {v : Int} {o : List Int}, rwalk F fs out v = some o → ∃ t, o = out ++ t
  | [], out, v, o, h => by simp only [rwalk, Option.some.injEq] at h; exact ⟨[], by simp [h]⟩
  | i :: r, out, v, o, h => by
    unfold rwalk at h
    split at h
    · split at h
      · cases h
      · obtain ⟨t, rfl⟩ := rwalk_head h
        exact ⟨_ :: t, by rw [List.append_assoc]; rfl⟩
    · cases h
theorem rtF {n : Network} (hn : netOk n = true) {r : Route} {o : List Int} (h : rnodes n r = some o) : RtF n r o := by
  have hF := netF hn
  obtain ⟨h1, h2, h3, h4, h5, h6, h7⟩ := rnodes_facts hF h
  refine ⟨⟨h6, h7⟩, ?_, rnodes_len h, h2, fun i hi => ?_, h4⟩
  · unfold rnodes at h
    split at h
    · obtain ⟨t, ht⟩ := rwalk_head h
      exact ⟨t, ht⟩
    · cases h
  · have := rnodes_in h i hi
    have h14 := hF.fib
    exact ⟨by omega, by omega⟩
theorem partsR_len (n : Network) : ∀ (fs vs : List Int), vs.length = fs.length → (partsR n fs vs).length = 2 * fs.length
  | [], vs, h => by cases vs <;> rfl
  | f :: fs, [], h => by simp at h
  | f :: fs, v :: vs, h => by
    have := partsR_len n fs vs (by simpa using h)
    simp only [partsR, List.length_cons, this]
    omega
theorem partsR_at (n : Network) : ∀ (fs vs : List Int) (j : Nat) (h : vs.length = fs.length) (hj : j < fs.length), (partsR n fs vs)[2 * j]? = some (itoa fs[j])
  | [], vs, j, h, hj => by simp at hj
  | f :: fs, [], j, h, hj => by simp at h
  | f :: fs, v :: vs, 0, h, hj => rfl
  | f :: fs, v :: vs, j + 1, h, hj => by
    have := partsR_at n fs vs j (by simpa using h) (by simpa using hj)
    rw [show 2 * (j + 1) = 2 * j + 1 + 1 by omega]
    simp only [partsR, List.getElem?_cons_succ, List.getElem_cons_succ]
    exact this
theorem partsR_all {n : Network} {p : List UInt8 → Prop} : ∀ (fs vs : List Int), (∀ f ∈ fs, p (itoa f)) → (∀ v ∈ vs, p (nm n v)) → ∀ x ∈ partsR n fs vs, p x
  | [], vs, h1, h2, x, hx => by cases vs <;> simp [partsR] at hx
  | f :: fs, [], h1, h2, x, hx => by simp [partsR] at hx
  | f :: fs, v :: vs, h1, h2, x, hx => by
    simp only [partsR, List.mem_cons] at hx
    rcases hx with rfl | rfl | hx
    · exact h1 f (List.mem_cons_self ..)
    · exact h2 v (List.mem_cons_self ..)
    · exact partsR_all fs vs (fun g hg => h1 g (List.mem_cons_of_mem _ hg)) (fun g hg => h2 g (List.mem_cons_of_mem _ hg)) x hx
theorem tails_len {c : UInt8} {k : Nat} : ∀ (l : List (List UInt8)), (∀ x ∈ l, x.length ≤ k) → (tailsOf c l).length ≤ (k + 1) * l.length
  | [], _ => by simp [tailsOf]
  | x :: r, h => by
    have h1 := tails_len (c := c) r fun y hy => h y (List.mem_cons_of_mem _ hy)
    have h2 := h x (List.mem_cons_self ..)
    have e : tailsOf c (x :: r) = c :: (x ++ tailsOf c r) := by simp [tailsOf]
    rw [e]
    simp only [List.length_append, List.length_cons, Nat.mul_add]
    omega
theorem RtF.vt {n : Network} {r : Route} {o : List Int} (h : RtF n r o) : o.tail.length = r.Fibers.length ∧ ∀ x ∈ o.tail, 0 ≤ x ∧ x < (n.Nodes.length : Int) :=
  ⟨by rw [List.length_tail, h.l]; rfl, fun x hx => h.v x (List.mem_of_mem_tail hx)⟩
theorem fmtR_len {n : Network} (hn : NetN n) {r : Route} {o : List Int} (h : RtF n r o) : (fmtR n r o).length ≤ 150 := by
  have h1 := (nm_facts hn h.s).2.2
  have h2 := tails_len (c := 46) (k := 8) (partsR n r.Fibers o.tail) (partsR_all _ _ (fun f hf => by have := (itoa_facts (h.f f hf)).2.1; omega) fun v hv => (nm_facts hn (h.vt.2 v hv)).2.2)
  rw [partsR_len n _ _ h.vt.1] at h2
  have h3 := h.k
  unfold fmtR
  rw [List.length_append]
  omega
theorem routeText_loop {fu : Nat} {n : Network} (hn : NetN n) {r : Route} {o : List Int} (h : RtF n r o) (b : Bool) : ∀ (fk i : Nat) (a : List UInt8), i ≤ r.Fibers.length → r.Fibers.length - i < fk → a.length ≤ 1000 + 100 * i → ∃ z, impl_routeText_L1 fu n r (o, b) fk (mkB a) i = some (mkB (a ++ tailsOf 46 (partsR n (r.Fibers.drop i) (o.drop (i + 1)))), z)
  | 0, i, a, hi, hf, ha => by omega
  | fk + 1, i, a, hi, hf, ha => by
    have hk := h.k
    rw [impl_routeText_L1]
    by_cases hlt : i < r.Fibers.length
    · have hfi := h.f _ (List.getElem_mem hlt)
      have hol : i + 1 < o.length := by rw [h.l]; omega
      have hv := h.v _ (List.getElem_mem hol)
      have e1 := (itoa_facts hfi).2.1
      have e2 := (nm_facts hn hv).2.2
      have g46 : (⟨#[46]⟩ : ByteArray) = mkB [46] := rfl
      rw [if_pos (by simpa using hlt), idx_in hlt, Option.bind_some, w64_inc hlt (by omega)]
      dsimp only
      rw [idx_in hol, Option.bind_some, idx_nm hv, Option.bind_some]
      unfold strconv_Itoa
      rw [itoaO_mk hfi, Option.bind_some, g46, scat_mk (by simp; omega), Option.bind_some, scat_mk (by simp; omega), Option.bind_some, scat_mk (by simp; omega), Option.bind_some, scat_mk (by simp; omega), Option.bind_some]
      obtain ⟨z, hz⟩ := routeText_loop hn h b fk (i + 1) (a ++ ([46] ++ itoa r.Fibers[i] ++ [46] ++ nm n o[i + 1])) hlt (by omega) (by simp; omega)
      refine ⟨z, ?_⟩
      rw [hz, ← List.getElem_cons_drop hlt, ← List.getElem_cons_drop hol]
      simp [partsR, tailsOf]
    · have e : i = r.Fibers.length := by omega
      subst e
      rw [if_neg (by simp), List.drop_length]
      have ep : partsR n [] (o.drop (r.Fibers.length + 1)) = [] := by
        cases o.drop (r.Fibers.length + 1) <;> rfl
      rw [ep]
      exact ⟨_, by rw [show tailsOf 46 [] = [] from rfl, List.append_nil]⟩
theorem routeText_eq {fu : Nat} (hfu : 2097153 ≤ fu) {n : Network} (hn : netOk n = true) {r : Route} {o : List Int} (ho : rnodes n r = some o) : impl_routeText fu n r = some (mkB (fmtR n r o)) := by
  have h := rtF hn ho
  have hN := netN hn
  have hB := netB_of hn
  obtain ⟨t, rfl⟩ := h.h
  have e := (nm_facts hN h.s).2.2
  have hk := h.k
  unfold impl_routeText
  rw [visited_eq hfu n r hB.2 hB.1.1 (by omega), ho, Option.bind_some]
  dsimp only
  have i0 : idx (r.Start :: t) 0 = some r.Start := rfl
  rw [i0, Option.bind_some, idx_nm h.s, Option.bind_some]
  obtain ⟨z, hz⟩ := routeText_loop (fu := fu) hN h true fu 0 (nm n r.Start) (by omega) (by omega) (by omega)
  rw [show ((0 : Nat) : Int) = 0 from rfl] at hz
  rw [hz, Option.bind_some]
  rfl
theorem implRt_eq {fu : Nat} (hfu : 2097153 ≤ fu) (n : Network) (r : Route) (hB : NetB n) (hr : r.Fibers.length ≤ 2097152) : impl_IsValidRoute fu n r = some (netOk n && (rnodes n r).isSome) := by
  unfold impl_IsValidRoute impl_RouteNodes
  rw [implNet_eq hfu n hB, visited_eq hfu n r hB.2 hB.1.1 hr, Option.bind_some]
  cases netOk n
  · rfl
  · cases rnodes n r <;> rfl
def rtOk (n : Network) (r : Route) : Bool := netOk n && (rnodes n r).isSome
theorem rtOk_some {n : Network} {r : Route} (h : rtOk n r = true) : netOk n = true ∧ ∃ o, rnodes n r = some o ∧ fmtRt n r = fmtR n r o := by
  unfold rtOk at h
  rw [Bool.and_eq_true] at h
  obtain ⟨o, ho⟩ := Option.isSome_iff_exists.1 h.2
  exact ⟨h.1, o, ho, by unfold fmtRt; rw [ho]; rfl⟩
theorem formatR_eq {fu : Nat} (hfu : 2097153 ≤ fu) (n : Network) (r : Route) (hB : NetB n) (hr : r.Fibers.length ≤ 2097152) : impl_FormatRoute fu n r = some (if rtOk n r = true then (mkB (fmtRt n r), true) else (ByteArray.empty, false)) := by
  unfold impl_FormatRoute
  rw [implRt_eq hfu n r hB hr, Option.bind_some]
  by_cases h : rtOk n r = true
  · obtain ⟨h1, o, ho, e⟩ := rtOk_some h
    rw [if_pos h, show (netOk n && (rnodes n r).isSome) = true from h, if_neg (by decide), routeText_eq hfu h1 ho, e]
    rfl
  · rw [if_neg h]
    rw [Bool.not_eq_true] at h
    rw [show (netOk n && (rnodes n r).isSome) = false from h]
    rfl
theorem w64_two {k : Nat} (h : k ≤ 2097152) : w64 ((k : Int) + 2) = ((k + 2 : Nat) : Int) := by rw [w64_in (by omega) (by omega)]; omega
theorem parseR_loop_ex {fu : Nat} {w : List ByteArray} (hw : w.length ≤ 1000000) : ∀ (fk k : Nat) (m : List Int), k ≤ w.length + 1 → w.length + 1 - k < fk → m.length ≤ k →
    ∃ out, impl_ParseRoute_L1 fu w fk k m = some out ∧ (out = .ret (⟨0, []⟩, false) ∨ ∃ z m', out = .next (z, m') ∧ m'.length ≤ w.length + 1)
  | 0, k, m, hi, hf, hm => by omega
  | fk + 1, k, m, hi, hf, hm => by
    rw [impl_ParseRoute_L1]
    by_cases h : k < w.length
    · obtain ⟨n1, b, p1, -⟩ := parse_ex w[k]
      unfold impl_ParseInt
      rw [if_pos (by simpa using h), idx_in h, Option.bind_some, p1, Option.bind_some]
      cases b with
      | false => exact ⟨_, rfl, .inl rfl⟩
      | true =>
        rw [if_neg (by simp), app_ok (by simp; omega), Option.bind_some, w64_two (by omega)]
        by_cases h2 : k + 2 ≤ w.length + 1
        · exact parseR_loop_ex hw fk (k + 2) _ h2 (by omega) (by simp; omega)
        · omega
    · rw [if_neg (by simpa using h)]
      exact ⟨_, rfl, .inr ⟨_, _, rfl, by omega⟩⟩
theorem parseR_ex {fu : Nat} (hfu : 2097153 ≤ fu) {n : Network} (hB : NetB n) (l : List UInt8) (h : l.length ≤ 1000000) : ∃ r b, impl_ParseRoute fu n (mkB l) = some (r, b) ∧ r.Fibers.length ≤ 2097152 := by
  unfold impl_ParseRoute strings_Split
  rw [show (⟨#[46]⟩ : ByteArray) = mkB [46] from rfl, splitO_mk (by omega), Option.bind_some]
  have hs := splitL_len 46 l
  have hwl : ((splitL 46 l).map mkB).length = (splitL 46 l).length := List.length_map ..
  generalize (splitL 46 l).map mkB = w at hwl
  have i0 : idx w 0 = some w[0] := idx_in (l := w) (i := 0) (by omega)
  rw [i0, Option.bind_some, indexOf_eq _ _ (by have := hB.1.1; omega) hB.1.1, Option.bind_some, size_mk]
  split
  · by_cases h4 : l.length ≤ 4000
    · rw [if_neg (by simp), decide_eq_false (by omega), Option.bind_some, if_neg (by decide)]
      obtain ⟨out, ho, hcase⟩ := parseR_loop_ex (fu := fu) (w := w) (by omega) fu 1 [] (by omega) (by omega) (by simp)
      rw [show ((1 : Nat) : Int) = 1 from rfl] at ho
      rw [ho, Option.bind_some]
      rcases hcase with rfl | ⟨z, m', rfl, hm'⟩
      · exact ⟨_, _, rfl, by simp⟩
      · rw [Out.on]
        dsimp only
        rw [formatR_eq hfu n _ hB (by simp only; omega), Option.bind_some]
        split
        · rw [if_neg (by simp), Option.bind_some]
          split
          · exact ⟨_, _, rfl, by simp⟩
          · exact ⟨_, _, rfl, by simp only; omega⟩
        · rw [if_pos (by simp), Option.bind_some, if_pos rfl]
          exact ⟨_, _, rfl, by simp⟩
    · rw [if_neg (by simp), decide_eq_true (by omega), Option.bind_some, if_pos rfl]
      exact ⟨_, _, rfl, by simp⟩
  · rw [if_pos (by simp), Option.bind_some, if_pos rfl]
    exact ⟨_, _, rfl, by simp⟩
theorem parseR_loop {fu : Nat} {n : Network} {r : Route} {o : List Int} (h : RtF n r o) (x : ByteArray) : ∀ (fk j : Nat), j ≤ r.Fibers.length → r.Fibers.length - j < fk → ∃ z, impl_ParseRoute_L1 fu (x :: (partsR n r.Fibers o.tail).map mkB) fk ((2 * j + 1 : Nat) : Int) (r.Fibers.take j) = some (.next (z, r.Fibers))
  | 0, j, hi, hf => by omega
  | fk + 1, j, hi, hf => by
    have hl : (x :: (partsR n r.Fibers o.tail).map mkB).length = 2 * r.Fibers.length + 1 := by
      rw [List.length_cons, List.length_map, partsR_len n _ _ h.vt.1]
    have hk := h.k
    rw [impl_ParseRoute_L1, hl]
    by_cases hj : j < r.Fibers.length
    · have hp := partsR_at n r.Fibers o.tail j h.vt.1 hj
      have e1 : idx (x :: (partsR n r.Fibers o.tail).map mkB) ((2 * j + 1 : Nat) : Int) = some (mkB (itoa r.Fibers[j])) := by
        rw [idx_nat, List.getElem?_cons_succ, List.getElem?_map, hp]
        rfl
      obtain ⟨z, hz⟩ := parseR_loop (fu := fu) h x fk (j + 1) hj (by omega)
      unfold impl_ParseInt
      rw [if_pos (by rw [decide_eq_true_eq]; omega), e1, Option.bind_some, parse_back (h.f _ (List.getElem_mem hj)), Option.bind_some, if_neg (by simp), app_ok (by simp; omega), Option.bind_some, w64_two (by omega)]
      refine ⟨z, ?_⟩
      rw [← hz, List.take_add_one, List.getElem?_eq_getElem hj]
      rfl
    · have e : j = r.Fibers.length := by omega
      subst e
      rw [if_neg (by rw [decide_eq_true_eq]; omega), List.take_length]
      exact ⟨_, rfl⟩
theorem parseR_back {fu : Nat} (hfu : 2097153 ≤ fu) {n : Network} {r : Route} (hok : rtOk n r = true) : impl_ParseRoute fu n (mkB (fmtRt n r)) = some (r, true) := by
  obtain ⟨hn, o, ho, e⟩ := rtOk_some hok
  have h := rtF hn ho
  have hN := netN hn
  have hB := netB_of hn
  have hF := netF hn
  have hlen := fmtR_len hN h
  have hk := h.k
  rw [e]
  unfold impl_ParseRoute strings_Split
  rw [show (⟨#[46]⟩ : ByteArray) = mkB [46] from rfl, splitO_mk (by omega), size_mk]
  have hs : splitL 46 (fmtR n r o) = nm n r.Start :: partsR n r.Fibers o.tail := by
    refine splitL_join (nm_not hN h.s (by decide)) ?_
    exact partsR_all _ _ (fun f hf => itoa_not (h.f f hf) (by decide)) fun v hv => nm_not hN (h.vt.2 v hv) (by decide)
  rw [hs, Option.bind_some, List.map_cons]
  have i0 : idx (mkB (nm n r.Start) :: (partsR n r.Fibers o.tail).map mkB) 0 = some (mkB (nm n r.Start)) := rfl
  rw [i0, Option.bind_some, indexOf_back hfu hN hF.hi h.s, Option.bind_some, if_neg (by simp), decide_eq_false (by omega), Option.bind_some, if_neg (by decide)]
  obtain ⟨z, hz⟩ := parseR_loop (fu := fu) h (mkB (nm n r.Start)) fu 0 (by omega) (by omega)
  have hz' : impl_ParseRoute_L1 fu (mkB (nm n r.Start) :: (partsR n r.Fibers o.tail).map mkB) fu 1 [] = some (.next (z, r.Fibers)) := hz
  rw [hz', Option.bind_some, Out.on]
  show ((impl_FormatRoute fu n r).bind _) = _
  rw [formatR_eq hfu n r hB (by omega), if_pos hok, Option.bind_some, if_neg (by simp), Option.bind_some, e, if_neg (by simp)]
def fmtB (b : Block) : List UInt8 := itoa b.First ++ 43 :: itoa b.Count
theorem blkB {b : Block} (h : blkOk b = true) : NumB b.First ∧ NumB b.Count := by
  unfold blkOk at h
  simp only [Bool.and_eq_true, decide_eq_true_eq] at h
  exact ⟨⟨by omega, by omega⟩, ⟨by omega, by omega⟩⟩
theorem fmtB_len {b : Block} (h : blkOk b = true) : (fmtB b).length ≤ 13 := by
  obtain ⟨h1, h2⟩ := blkB h
  have e1 := (itoa_facts h1).2.1
  have e2 := (itoa_facts h2).2.1
  unfold fmtB
  simp only [List.length_append, List.length_cons]
  omega
theorem blockText_eq {fu : Nat} {b : Block} (h : blkOk b = true) : impl_blockText fu b = some (mkB (fmtB b)) := by
  obtain ⟨h1, h2⟩ := blkB h
  have e1 := (itoa_facts h1).2.1
  have e2 := (itoa_facts h2).2.1
  unfold impl_blockText strconv_Itoa
  rw [itoaO_mk h1, Option.bind_some, show (⟨#[43]⟩ : ByteArray) = mkB [43] from rfl, scat_mk (by simp; omega), Option.bind_some, itoaO_mk h2, Option.bind_some, scat_mk (by simp; omega), Option.bind_some]
  unfold fmtB
  rw [List.append_assoc]
  rfl
theorem formatB_eq (fu : Nat) (b : Block) : impl_FormatBlock fu b = some (if blkOk b = true then (mkB (fmtB b), true) else (ByteArray.empty, false)) := by
  unfold impl_FormatBlock
  rw [implBlk_eq, Option.bind_some]
  by_cases h : blkOk b = true
  · rw [h, if_neg (by decide), if_pos rfl, blockText_eq h]
    rfl
  · rw [Bool.not_eq_true] at h
    rw [h]
    rfl
theorem parseB_ex (fu : Nat) (l : List UInt8) (h : l.length ≤ 1000000) : ∃ b c, impl_ParseBlock fu (mkB l) = some (b, c) := by
  unfold impl_ParseBlock strings_Cut impl_ParseInt
  rw [show (⟨#[43]⟩ : ByteArray) = mkB [43] from rfl, cutO_mk (by omega), Option.bind_some]
  dsimp only
  obtain ⟨n1, b1, p1, -⟩ := parse_ex (mkB (Go.Lib.cut l [43]).1)
  obtain ⟨n2, b2, p2, -⟩ := parse_ex (mkB (Go.Lib.cut l [43]).2.1)
  rw [p1, Option.bind_some, p2, Option.bind_some]
  cases b1 with
  | false => exact ⟨_, _, rfl⟩
  | true =>
    cases b2 with
    | false => exact ⟨_, _, rfl⟩
    | true =>
      rw [if_neg (by simp), if_neg (by simp), implBlk_eq, Option.bind_some]
      by_cases hb : blkOk ⟨n1, n2⟩ = true
      · rw [hb, if_neg (by decide), blockText_eq hb, Option.bind_some, Option.bind_some]
        split <;> exact ⟨_, _, rfl⟩
      · rw [Bool.not_eq_true] at hb
        rw [hb]
        exact ⟨_, _, rfl⟩
theorem parseB_back {fu : Nat} {b : Block} (h : blkOk b = true) : impl_ParseBlock fu (mkB (fmtB b)) = some (b, true) := by
  obtain ⟨h1, h2⟩ := blkB h
  have hl := fmtB_len h
  have hc : Go.Lib.cut (fmtB b) [43] = (itoa b.First, itoa b.Count, true) := cut_one (itoa_not h1 (by decide))
  unfold impl_ParseBlock strings_Cut impl_ParseInt
  rw [show (⟨#[43]⟩ : ByteArray) = mkB [43] from rfl, cutO_mk (by omega), Option.bind_some, hc]
  dsimp only
  rw [parse_back h1, Option.bind_some, parse_back h2, Option.bind_some, if_neg (by simp), if_neg (by simp)]
  show ((((impl_IsValidBlock fu b).bind _).bind _) : Option (Block × Bool)) = _
  rw [implBlk_eq, Option.bind_some, h, if_neg (by decide)]
  show ((((impl_blockText fu b).bind _).bind _) : Option (Block × Bool)) = _
  rw [blockText_eq h, Option.bind_some, Option.bind_some, if_neg (by simp)]
end AT

namespace AT
def apart (a b : Int) : Bool := band a b == 0
def has (l : List Int) (f : Int) : Bool := l.any fun x => x == f
def used (L : List Light) (f : Int) : Int := L.foldl (fun o y => if has y.Route.Fibers f = true then bor o (bits y.Block) else o) 0
def along (L : List Light) (fs : List Int) : Int := fs.foldl (fun o f => bor o (used L f)) 0
end AT

namespace AT
theorem used_loop {fu : Nat} (hfu : 2097153 ≤ fu) (p : Plan) (f : Int) (hl : p.Lights.length ≤ 2097152) (hb : ∀ y ∈ p.Lights, blkOk y.Block = true) (hr : ∀ x ∈ p.Lights, x.Route.Fibers.length ≤ 2097152) : ∀ (fk i : Nat) (o : Int), i ≤ p.Lights.length → p.Lights.length - i < fk →
    ∃ z, spec_l9Used_L1 fu p f fk o i = some ((p.Lights.drop i).foldl (fun o y => if has y.Route.Fibers f = true then bor o (bits y.Block) else o) o, z) := by
  intro fk
  induction fk with
  | zero => intro i _ _ h; omega
  | succ fk ih =>
    intro i o hi hk
    rw [spec_l9Used_L1]
    by_cases h : i < p.Lights.length
    · have h' : (i : Int) < (p.Lights.length : Int) := by omega
      have hm := List.getElem_mem h
      have hr' := hr _ hm
      simp only [h', decide_true, if_true, idx_in h, Option.bind_some, l1Has_eq _ f (show p.Lights[i].Route.Fibers.length < fu by omega) hr', l8Bits_eq (hb _ hm)]
      rw [← List.getElem_cons_drop h, List.foldl_cons, w64_inc h (by omega)]
      have e : (p.Lights[i].Route.Fibers.any fun x => x == f) = has p.Lights[i].Route.Fibers f := rfl
      rw [e]
      by_cases hc : has p.Lights[i].Route.Fibers f = true
      · rw [if_pos hc, if_pos hc]
        exact ih (i + 1) _ h (by omega)
      · rw [if_neg hc, if_neg hc]
        exact ih (i + 1) _ h (by omega)
    · obtain rfl : i = p.Lights.length := by omega
      rw [if_neg (by simp), List.drop_length]
      exact ⟨_, rfl⟩
theorem l9Used_eq {fu : Nat} (hfu : 2097153 ≤ fu) (p : Plan) (f : Int) (hl : p.Lights.length ≤ 2097152) (hb : ∀ y ∈ p.Lights, blkOk y.Block = true) (hr : ∀ x ∈ p.Lights, x.Route.Fibers.length ≤ 2097152) : spec_l9Used fu p f = some (used p.Lights f) := by
  unfold spec_l9Used
  obtain ⟨z, hz⟩ := used_loop hfu p f hl hb hr fu 0 0 (by omega) (by omega)
  rw [show ((0 : Nat) : Int) = 0 from rfl, List.drop_zero] at hz
  rw [hz]
  rfl
end AT
